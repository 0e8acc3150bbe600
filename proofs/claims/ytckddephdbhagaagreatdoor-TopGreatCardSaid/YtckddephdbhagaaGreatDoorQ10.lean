/- A part of the proof that TopGreat answers true: what some of the functions on its road compute. -/
import Derived.Test.YtckddephdbhagaaGreatDoorQ1
import Derived.Test.YtckddephdbhagaaGreatDoorQ3
import Derived.Test.YtckddephdbhagaaGreatDoorQ5
import Derived.Test.YtckddephdbhagaaGreatDoorQ7
import Derived.Test.YtckddephdbhagaaGreatDoorQ9
set_option linter.unusedVariables false
set_option linter.unusedSimpArgs false
namespace Go.Q
open Go.RowKit Go.Proofs
structure GP (w0 w:World) (B:STB) (A:ASt) (K:Nat) (tk:Option TK) (tv:Value) (ow:Nat→SOwn) (sv:Value):Prop where
 gb:ow B.gb= .gb∧Row w B.gb (A.G * 2) (grp A.par A.wt)
 cl:ow B.cl= .cl∧Row w B.cl A.C (ints A.clocks)
 cu:ow B.cu= .cu∧Row w B.cu A.C (ints A.current)
 tk:TkAt w ow tv tk
 s:w.ownsRow w0.heap.size 103 1 sv K ((List.range K).map fun g=> slc (B.si g) A.C (B.sc g))
 sown:∀ b,sv.ownBlock=some b→ow b= .so
 si:∀ g,g < K→ow (B.si g)= .si g∧Row w (B.si g) (A.C * 3) (spt (A.spots g))
 lt:∀ b,ow b≠ .no→w0.heap.size≤b∧b < w.heap.size
 mod:Mod No w0 w
section
variable {S:Nat→Prop} {w0 w w' :World} {B:STB} {A:ASt} {K:Nat} {tk:Option TK} {tv:Value} {ow:Nat→SOwn} {sv:Value}
theorem GP.move (h:GP w0 w B A K tk tv ow sv) (hm:Mod S w w') (hs:∀ b,S b→ow b= .no) (hS:∀ b,S b→w0.heap.size≤b):GP w0 w' B A K tk tv ow sv:=by
 have H:∀ b t,t≠ .no→ow b=t→¬S b:=fun b t ht e hb=> ht (by rw [←e,hs b hb])
 refine ⟨⟨h.gb.1,h.gb.2.mod hm (H _ .gb (by simp) h.gb.1)⟩,⟨h.cl.1,h.cl.2.mod hm (H _ .cl (by simp) h.cl.1)⟩,⟨h.cu.1,h.cu.2.mod hm (H _ .cu (by simp) h.cu.1)⟩,
  h.tk.mod hm (fun b e=> H b .tk (by simp) e) (fun _ _=> rfl),ownsRow_mod h.s hm (fun b hb=> H _ .so (by simp) (h.sown b hb)),h.sown,fun g hg=> ⟨(h.si g hg).1,(h.si g hg).2.mod hm (H _ (.si g) (by simp) (h.si g hg).1)⟩,fun b hb=> ⟨(h.lt b hb).1,Nat.lt_of_lt_of_le (h.lt b hb).2 hm.size⟩,Mod.trans h.mod hm (fun b hb hSb=> by have:=hS b hSb;omega)⟩
theorem GP.no (h:GP w0 w B A K tk tv ow sv) (hm:Mod No w w'):GP w0 w' B A K tk tv ow sv:=h.move hm (fun _ hb=> hb.elim) (fun _ hb=> hb.elim)
theorem GP.next (I:GP w0 w B A K tk tv ow sv) {sg scp:Nat} (hn:ow sg= .no) (hge:w0.heap.size≤sg) (R:Row w sg (A.C * 3) (spt (A.spots K))) {gs cap:Nat} (M:Mod (fun b=> S b∨sv.ownBlock=some b) w w') (hS:∀ b,S b→ow b= .no∧b≠sg∧w0.heap.size≤b)
  (O:w'.ownsRow w0.heap.size 103 1 (slc gs (K+1) cap) (K+1) (((List.range K).map fun g=> slc (B.si g) A.C (B.sc g))++ [slc sg A.C scp])) (at_:sv.ownBlock=some gs∨w.heap.size≤gs):
  ∃ ow',GP w0 w' { B with si:=fun g=> if g=K then sg else B.si g,sc:=fun g=> if g=K then scp else B.sc g } A (K+1) tk tv ow' (slc gs (K+1) cap)∧(∀ b,b < w.heap.size→b≠sg→ow' b=ow b):=by
 have hz:=M.size
 have lsg:=R.lt
 have hgs:gs≠sg:=by
  rintro rfl
  rcases at_ with h|h
  ·rw [I.sown _ h] at hn;simp at hn
  ·omega
 have ho:∀ b,b < w.heap.size→ow b≠ .no→(if b=gs then SOwn.so else if b=sg then .si K else ow b)=ow b:=by
  intro b hb hne
  split
  ·rename_i h;subst h
   rcases at_ with h|h
   ·rw [I.sown _ h]
   ·omega
  split
  ·rename_i h;subst h;exact absurd hn hne
  rfl
 have H:∀ b t,t≠ .no→t≠ .so→ow b=t→¬(S b∨sv.ownBlock=some b):=by
  rintro b t h1 h2 e (h|h)
  ·exact h1 (by rw [←e,(hS b h).1])
  ·exact h2 (by rw [←e,I.sown _ h])
 have rw_:∀ {b N:Nat} {F:Nat→Value} {t:SOwn},t≠ .no→t≠ .so→ow b=t∧Row w b N F→(if b=gs then SOwn.so else if b=sg then .si K else ow b)=t∧Row w' b N F:=
  fun h1 h2 h3=> ⟨by rw [ho _ h3.2.lt (by rw [h3.1];exact h1),h3.1],h3.2.mod M (H _ _ h1 h2 h3.1)⟩
 have hsm:¬(S sg∨sv.ownBlock=some sg):=by
  rintro (h|h)
  ·exact (hS _ h).2.1 rfl
  ·rw [I.sown _ h] at hn;simp at hn
 refine ⟨fun b=> if b=gs then .so else if b=sg then .si K else ow b,⟨rw_ (by simp) (by simp) I.gb,rw_ (by simp) (by simp) I.cl,rw_ (by simp) (by simp) I.cu, ?_, ?_, ?_, ?_, ?_, ?_⟩, ?_⟩
 ·have ht:=I.tk
  cases tk with
  |none=> exact ht
  |some t=>
   obtain ⟨b,c,h1,h2⟩:=ht
   exact ⟨b,c,h1,rw_ (by simp) (by simp) h2⟩
 ·have:((List.range (K+1)).map fun g=> slc (if g=K then sg else B.si g) A.C (if g=K then scp else B.sc g))=((List.range K).map fun g=> slc (B.si g) A.C (B.sc g))++ [slc sg A.C scp]:=by
   rw [List.range_succ,List.map_append]
   congr 1
   ·refine List.map_congr_left (fun g hg=> ?_)
    have:=List.mem_range.1 hg
    rw [if_neg (by omega),if_neg (by omega)]
   ·simp
  rw [this];exact O
 ·intro b hb
  obtain rfl:gs=b:=Option.some.inj hb
  simp
 ·intro g hg
  try dsimp only
  by_cases e:g=K
  ·subst e
   simp only [if_true,if_neg hgs.symm]
   exact ⟨trivial,R.mod M hsm⟩
  ·simp only [if_neg e];exact rw_ (by simp) (by simp) (I.si g (by omega))
 ·intro b hb
  try dsimp only at hb
  split at hb
  ·rename_i h;subst h;exact O.lt _ rfl
  split at hb
  ·rename_i h;subst h;omega
  have:=I.lt b hb;omega
 ·refine Mod.trans I.mod M ?_
  rintro b hb (h|h)
  ·exact absurd hb (by have:=(hS b h).2.2;omega)
  ·exact absurd hb (by have:=(I.lt b (by rw [I.sown _ h];simp)).1;omega)
 ·intro b hb hbs
  show (if b=gs then SOwn.so else if b=sg then .si K else ow b)=ow b
  rw [if_neg hbs]
  split
  ·rename_i e;subst e
   rcases at_ with h|h
   ·rw [I.sown _ h]
   ·omega
  ·rfl
theorem GP.done (I:GP w0 w B A A.G A.task tv ow sv) (hG:0 < A.G):∃ B',strow B' A= [.int .i64 A.C, .int .u64 A.cr,slc B.gb A.G B.gcap,slc B.cl A.C B.ccap,slc B.cu A.C B.ucap,tv,sv]∧StAt w ow B' A∧(∀ b,ow b≠ .no→w0.heap.size≤b):=by
 obtain ⟨_,⟨_,h0⟩|⟨gs,cap,_,hv,_⟩⟩:=I.s
 ·omega
 have O:=I.s
 rw [hv] at O
 have R:=ownsRow_row O
 refine ⟨{ B with tv:=tv,so:=gs,scap:=cap },by rw [hv];rfl,⟨fun t=> ?_,fun b hb=> (I.lt b hb).2⟩,fun b hb=> (I.lt b hb).1⟩
 cases t with
 |no=> trivial
 |gb=> exact I.gb
 |cl=> exact I.cl
 |cu=> exact I.cu
 |tk=>
  have ht:=I.tk
  simp only [SPart]
  unfold TkAt at ht
  split at ht <;> rename_i hh <;> first|exact ht|(simp only [hh];exact ht)|(simp only [hh] at ht ⊢;exact ht)
 |so=>
  refine ⟨I.sown gs (by rw [hv];rfl),(R.take (M:=A.G) (by omega)).congr (fun i hi=> ?_)⟩
  simp [fl,hi]
 |si g=> exact fun hg=> I.si g hg
end
end Go.Q
namespace Go.Q
open Go.RowKit Go.Proofs
set_option maxRecDepth 100000 in
set_option maxHeartbeats 4000000 in
theorem ref_copied (w:World) (A:ASt) (B:STB) (N:Nat) (sv0:Value) (hgb:Row w B.gb (A.G * 2) (grp A.par A.wt)) (hcl:Row w B.cl A.C (ints A.clocks)) (hcu:Row w B.cu A.C (ints A.current)) (htk:∃ o:Nat→SOwn,TkAt w o B.tv A.task)
  (hsp:(N=0∧sv0= .slice none 0 0)∨(N=A.G∧sv0=slc B.so A.G B.scap∧Row w B.so A.G (fun g=> slc (B.si g) A.C (B.sc g))∧∀ g,g < A.G→Row w (B.si g) (A.C * 3) (spt (A.spots g)))) (hC:0 < A.C) (hC2:A.C≤64) (hG:0 < A.G) (hG2:A.G≤256):
  Calls Tryz.prog 55 #[.agg #[.int .i64 A.C, .int .u64 A.cr,slc B.gb A.G B.gcap,slc B.cl A.C B.ccap,slc B.cu A.C B.ucap,B.tv,sv0]] w fun e w' => ∃ B' tv' sv' ow',e= .returned (.agg #[.int .i64 A.C, .int .u64 A.cr,slc B'.gb A.G B'.gcap,slc B'.cl A.C B'.ccap,slc B'.cu A.C B'.ucap,tv',sv'])∧GP w w' B' A N A.task tv' ow' sv' :=by
 obtain ⟨ig,hg0,hg1,hg2,hg3⟩:=info_parts Tryz.infoGroup
 obtain ⟨ii,hi0,hi1,hi2,hi3⟩:=info_parts Tryz.infoInt
 have HS:=Lib.hid (And.intro htk hsp)
 clear htk hsp
 go_enter Tryz.func55,Tryz.ntmps55
 go_upto_region 1 with fail
 refine wp_world (fun W=> Mod No w W∧Row W w.heap.size 7 (fl [.int .i64 A.C, .int .u64 A.cr,slc B.gb A.G B.gcap,slc B.cl A.C B.ccap,slc B.cu A.C B.ucap,B.tv,sv0])∧Row W (w.heap.size+1) 7 (fl [.int .i64 0, .int .u64 0, .slice none 0 0, .slice none 0 0, .slice none 0 0, .slice none 0 0, .slice none 0 0])) ?_ ?_
 ·exact ⟨by (repeat first|(with_reducible exact (Mod.refl No w))|(with_reducible refine Mod.alloc ?_ _)|(with_reducible refine Mod.drew ?_)|(with_reducible refine Mod.drewN ?_ _)|(with_reducible refine Mod.sc ?_)),(row_newL w [_,_,_,_,_,_,_] _).alloc _,row_newL' _ _ [_,_,_,_,_,_,_] _ (by simp)⟩
 intro W1 ⟨m1,X1,Z1⟩
 have lX:=X1.lt
 have q2:=X1.cL 2 _ (by omega) rfl
 go_upto_region 2 with (at_builtin;go_must (refine wpList_app_row rfl _ _ 38 rfl 71 ig (.agg #[.int .i64 0, .int .i64 0]) 2 16 Tryz.underlying38 hg0 hg1 hg2 hg3 rfl (by decide) (by decide) B.gb A.G B.gcap (grp A.par A.wt) (hgb.mod m1 (fun h=> h)) hG (by omega) (fun i _=> by unfold grp;split <;> rfl) rfl rfl ?_);intro g1 c1 w1 a1 a2 a3 R1 n1;have X1' :=X1.mod n1 (fun h=> h);have lX' :=X1'.lt;have f2:=X1'.free 2;have q2' :=X1'.cL 2 _ (by omega) rfl)
 refine wp_world (fun W=> Mod No w W∧Row W w.heap.size 7 (fl [.int .i64 A.C, .int .u64 A.cr,slc g1 A.G c1,slc B.cl A.C B.ccap,slc B.cu A.C B.ucap,B.tv,sv0])∧Row W (w.heap.size+1) 7 (fl [.int .i64 0, .int .u64 0, .slice none 0 0, .slice none 0 0, .slice none 0 0, .slice none 0 0, .slice none 0 0])∧Row W g1 (A.G * 2) (grp A.par A.wt)) ?_ ?_
 ·have hne:w.heap.size≠g1:=by omega
  refine ⟨Mod.setCell (Mod.trans m1 n1 (fun _ _ h=> h)) (.inl (Nat.le_refl _)) _,(X1'.set (i:=2) (by omega) _).congr (fun i hi=> by rcases (by omega:i=0∨i=1∨i=2∨i=3∨i=4∨i=5∨i=6) with rfl|rfl|rfl|rfl|rfl|rfl|rfl <;> rfl),(Z1.mod n1 (fun h=> h)).setOther (by show w.heap.size≠w.heap.size+1;omega) _,R1.setOther hne _⟩
 intro W2 ⟨m2,X2,Z2,R2⟩
 clear X1' lX' f2 q2' q2 lX
 have lX:=X2.lt
 have q3:=X2.cL 3 _ (by omega) rfl
 have dd1:w.heap.size+1 < g1:=by have:=Z1.lt;omega
 go_upto_region 3 with (at_builtin;go_must (refine wpList_app_row rfl _ _ 44 rfl 3 ii (.int .i64 0) 1 8 Tryz.underlying44 hi0 hi1 hi2 hi3 rfl (by decide) (by decide) B.cl A.C B.ccap (ints A.clocks) (by rw [Nat.mul_one];exact hcl.mod m2 (fun h=> h)) hC (by omega) (fun i _=> rfl) rfl rfl ?_);intro g2 c2 w2 a1 a2 a3 RN n1;have X1' :=X2.mod n1 (fun h=> h);have lX' :=X1'.lt;have f2:=X1'.free 3;have q2' :=X1'.cL 3 _ (by omega) rfl)
 refine wp_world (fun W=> Mod No w W∧Row W w.heap.size 7 (fl [.int .i64 A.C, .int .u64 A.cr,slc g1 A.G c1,slc g2 A.C c2,slc B.cu A.C B.ucap,B.tv,sv0])∧Row W (w.heap.size+1) 7 (fl [.int .i64 0, .int .u64 0, .slice none 0 0, .slice none 0 0, .slice none 0 0, .slice none 0 0, .slice none 0 0])∧Row W g1 (A.G * 2) (grp A.par A.wt)∧Row W g2 A.C (ints A.clocks)∧w.heap.size+1 < g2∧g2≠g1) ?_ ?_
 ·have lR:=R2.lt
  have lZ:=Z2.lt
  rw [Nat.mul_one] at RN
  refine ⟨Mod.setCell (Mod.trans m2 n1 (fun _ _ h=> h)) (.inl (Nat.le_refl _)) _,(X1'.set (i:=3) (by omega) _).congr (fun i hi=> by rcases (by omega:i=0∨i=1∨i=2∨i=3∨i=4∨i=5∨i=6) with rfl|rfl|rfl|rfl|rfl|rfl|rfl <;> rfl),(Z2.mod n1 (fun h=> h)).setOther (by show w.heap.size≠w.heap.size+1;omega) _,(R2.mod n1 (fun h=> h)).setOther (by show w.heap.size≠g1;omega) _,RN.setOther (by show w.heap.size≠g2;omega) _,by omega,by omega⟩
 intro W3 ⟨m3,X3,Z3,R3,C3,dd2,dd3⟩
 clear X1' lX' f2 q2' q3 lX RN
 have lX:=X3.lt
 have q4:=X3.cL 4 _ (by omega) rfl
 go_upto_region 4 with (at_builtin;go_must (refine wpList_app_row rfl _ _ 44 rfl 3 ii (.int .i64 0) 1 8 Tryz.underlying44 hi0 hi1 hi2 hi3 rfl (by decide) (by decide) B.cu A.C B.ucap (ints A.current) (by rw [Nat.mul_one];exact hcu.mod m3 (fun h=> h)) hC (by omega) (fun i _=> rfl) rfl rfl ?_);intro g3 c3 w3 a1 a2 a3 RN n1;have X1' :=X3.mod n1 (fun h=> h);have lX' :=X1'.lt;have f2:=X1'.free 4;have q2' :=X1'.cL 4 _ (by omega) rfl)
 refine wp_world (fun W=> Mod No w W∧Row W w.heap.size 7 (fl [.int .i64 A.C, .int .u64 A.cr,slc g1 A.G c1,slc g2 A.C c2,slc g3 A.C c3,B.tv,sv0])∧Row W (w.heap.size+1) 7 (fl [.int .i64 0, .int .u64 0, .slice none 0 0, .slice none 0 0, .slice none 0 0, .slice none 0 0, .slice none 0 0])∧Row W g1 (A.G * 2) (grp A.par A.wt)∧Row W g2 A.C (ints A.clocks)∧Row W g3 A.C (ints A.current)∧w.heap.size+1 < g3∧g3≠g1∧g3≠g2) ?_ ?_
 ·have lR:=R3.lt
  have lC:=C3.lt
  have lZ:=Z3.lt
  rw [Nat.mul_one] at RN
  refine ⟨Mod.setCell (Mod.trans m3 n1 (fun _ _ h=> h)) (.inl (Nat.le_refl _)) _,(X1'.set (i:=4) (by omega) _).congr (fun i hi=> by rcases (by omega:i=0∨i=1∨i=2∨i=3∨i=4∨i=5∨i=6) with rfl|rfl|rfl|rfl|rfl|rfl|rfl <;> rfl),(Z3.mod n1 (fun h=> h)).setOther (by show w.heap.size≠w.heap.size+1;omega) _,(R3.mod n1 (fun h=> h)).setOther (by show w.heap.size≠g1;omega) _,(C3.mod n1 (fun h=> h)).setOther (by show w.heap.size≠g2;omega) _,RN.setOther (by show w.heap.size≠g3;omega) _,by omega,by omega,by omega⟩
 intro W4 ⟨m4,X4,Z4,R4,C4,U4,dd4,dd5,dd6⟩
 clear X1' lX' f2 q2' q4 lX RN
 have lX:=X4.lt
 have q5:=X4.cL 5 _ (by omega) rfl
 clear X1 X2 X3 Z1 Z2 Z3 R2 R3 C3 R1 m1 m2 m3
 go_cut [] (fun wx=> ∃ (tv' :Value) (ow:Nat→SOwn),Mod (fun b=> b=w.heap.size) W4 wx∧Row wx w.heap.size 7 (fl [.int .i64 A.C, .int .u64 A.cr,slc g1 A.G c1,slc g2 A.C c2,slc g3 A.C c3,tv',sv0])∧TkAt wx ow tv' A.task∧(∀ b,b < W4.heap.size→ow b= .no)∧∀ b,ow b≠ .no→b < wx.heap.size)
 case first=>
  obtain ⟨⟨o,hT⟩,_⟩:=HS.out
  cases hA:A.task with
  |none=>
   rw [hA] at hT
   obtain ⟨ta,tc,htv⟩:=hT
   rw [htv] at X4 q5
   have HTV:=Lib.hid htv
   clear htv
   have f5:=X4.free 5
   cases ta with
   |none=>
    go_wp2_with fail
    go_meet
    exact ⟨.slice (some ⟨W4.heap.size,0,none⟩) 0 0,fun _=> .no,((Mod.refl (fun b=> b=w.heap.size) W4).setCell (p:=⟨w.heap.size,5,none⟩) (.inr rfl) _).alloc _,((X4.set (i:=5) (by omega) _).congr (fun i hi=> by rcases (by omega:i=0∨i=1∨i=2∨i=3∨i=4∨i=5∨i=6) with rfl|rfl|rfl|rfl|rfl|rfl|rfl <;> rfl)).alloc _,by rw [hA];exact ⟨_,_,rfl⟩,fun _ _=> rfl,fun b hb=> absurd rfl hb⟩
   |some a=>
    go_wp2_with fail
    go_meet
    exact ⟨.slice (some ⟨W4.heap.size,0,none⟩) 0 0,fun _=> .no,((Mod.refl (fun b=> b=w.heap.size) W4).setCell (p:=⟨w.heap.size,5,none⟩) (.inr rfl) _).alloc _,((X4.set (i:=5) (by omega) _).congr (fun i hi=> by rcases (by omega:i=0∨i=1∨i=2∨i=3∨i=4∨i=5∨i=6) with rfl|rfl|rfl|rfl|rfl|rfl|rfl <;> rfl)).alloc _,by rw [hA];exact ⟨_,_,rfl⟩,fun _ _=> rfl,fun b hb=> absurd rfl hb⟩
  |some t=>
   rw [hA] at hT
   obtain ⟨tb,tc,htv,_,RT⟩:=hT
   rw [htv] at X4 q5
   have HTV:=Lib.hid htv
   clear htv
   obtain ⟨it,ht0,ht1,ht2,ht3⟩:=info_parts Tryz.infoTask
   go_wp2_with (at_builtin;go_must (refine wpList_app_row rfl _ _ 45 rfl 119 it _ 8 64 Tryz.underlying45 ht0 ht1 ht2 ht3 rfl (by decide) (by decide) tb 1 tc (fl (tkc t)) (RT.mod m4 (fun h=> h)) (by omega) (by omega) ?_ rfl rfl ?_);go_must (· intro i hi;rcases (by omega:i=0∨i=1∨i=2∨i=3∨i=4∨i=5∨i=6∨i=7) with rfl|rfl|rfl|rfl|rfl|rfl|rfl|rfl <;> rfl);intro g4 c4 w5 a1 a2 a3 RN n1;have X1' :=X4.mod n1 (fun h=> h);have lX' :=X1'.lt;have f5:=X1'.free 5;have q5' :=X1'.cL 5 _ (by omega) rfl)
   go_meet
   refine ⟨slc g4 1 c4,fun b=> if b=g4 then .tk else .no,(n1.no (fun b=> b=w.heap.size)).setCell (p:=⟨w.heap.size,5,none⟩) (.inr rfl) _,(X1'.set (i:=5) (by omega) _).congr (fun i hi=> by rcases (by omega:i=0∨i=1∨i=2∨i=3∨i=4∨i=5∨i=6) with rfl|rfl|rfl|rfl|rfl|rfl|rfl <;> rfl),by rw [hA];exact ⟨g4,c4,rfl,by simp,RN.setOther (by show w.heap.size≠g4;omega) _⟩,fun b hb=> if_neg (by omega),fun b hb=> ?_⟩
   try dsimp only at hb
   split at hb
   ·rename_i e;rw [e];simpa using a2
   ·exact absurd rfl hb
 case rest=>
 obtain ⟨tv',ow,mx,Xx,hTk,hlo,hhi⟩:=hcut
 have lR:=R4.lt
 have lC:=C4.lt
 have lU:=U4.lt
 have lZ4:=Z4.lt
 have Zx:=Z4.mod mx (by show ¬w.heap.size+1=w.heap.size;omega)
 have I0:GP w wc ⟨g1,c1,g2,c2,g3,c3,tv',0,0,fun _=> 0,fun _=> 0⟩ A 0 A.task tv' (fun b=> if b=g1 then .gb else if b=g2 then .cl else if b=g3 then .cu else ow b) (.slice none 0 0):=by
  have zx:=mx.size
  refine ⟨⟨by simp,R4.mod mx (by show ¬g1=w.heap.size;omega)⟩,⟨?_,C4.mod mx (by show ¬g2=w.heap.size;omega)⟩,⟨?_,U4.mod mx (by show ¬g3=w.heap.size;omega)⟩, ?_,World.ownsRow_nil _ _ _ _,fun b hb=> by simp [Value.ownBlock] at hb,fun g hg=> by omega, ?_, ?_⟩
  ·show (if g2=g1 then SOwn.gb else if g2=g2 then .cl else if g2=g3 then .cu else ow g2)= .cl
   rw [if_neg (by omega),if_pos rfl]
  ·show (if g3=g1 then SOwn.gb else if g3=g2 then .cl else if g3=g3 then .cu else ow g3)= .cu
   rw [if_neg (by omega),if_neg (by omega),if_pos rfl]
  ·cases hA:A.task with
   |none=> rw [hA] at hTk;exact hTk
   |some t=>
    rw [hA] at hTk
    obtain ⟨b,c,e1,e2,e3⟩:=hTk
    have hb:W4.heap.size≤b:=Classical.byContradiction fun hh=> by rw [hlo b (by omega)] at e2;simp at e2
    exact ⟨b,c,e1,by show (if b=g1 then SOwn.gb else if b=g2 then .cl else if b=g3 then .cu else ow b)= .tk;rw [if_neg (by omega),if_neg (by omega),if_neg (by omega),e2],e3⟩
  ·intro b hb
   try dsimp only at hb
   split at hb
   ·omega
   split at hb
   ·omega
   split at hb
   ·omega
   have h1:=hhi b hb
   have h2:¬b < W4.heap.size:=fun h=> hb (hlo b h)
   have:=m4.size
   omega
  ·exact Mod.trans m4 mx (by rintro b hb rfl;omega)
 obtain ⟨sl,hsv⟩:∃ o c,sv0= .slice o N c:=by
  rcases HS.out.2 with ⟨rfl,rfl⟩|⟨rfl,rfl,_⟩
  ·exact ⟨_,_,rfl⟩
  ·exact ⟨_,_,rfl⟩
 obtain ⟨sc0,hsv⟩:=hsv
 have hNG:N≤A.G:=by rcases HS.out.2 with ⟨rfl,_⟩|⟨rfl,_⟩ <;> omega
 have HSV:=Lib.hid hsv
 have x6:wc.cell? ⟨w.heap.size,6,none⟩=some (.slice sl N sc0):=by have:=Xx.cL 6 _ (by have:=Xx.lt;omega) rfl;rw [this];exact congrArg some hsv
 clear hsv
 have lXx:=Xx.lt
 have t0:ow w.heap.size= .no:=hlo _ (by omega)
 have t1:ow (w.heap.size+1)= .no:=hlo _ (by omega)
 clear X4 Z4 R4 C4 U4 m4 mx hTk hlo hhi
 go_wp2
 clear x6
 go_loopw [4,3] (fun s4 s3 wr=> ∃ (k:Nat) (Bk:STB) (svv:Value) (owk:Nat→SOwn),s4= .int .i64 k∧svv=s3∧k≤N∧GP w wr Bk A k A.task tv' owk svv∧Row wr w.heap.size 7 (fl [.int .i64 A.C, .int .u64 A.cr,slc g1 A.G c1,slc g2 A.C c2,slc g3 A.C c3,tv',sv0])∧Row wr (w.heap.size+1) 7 (fl [.int .i64 0, .int .u64 0, .slice none 0 0, .slice none 0 0, .slice none 0 0, .slice none 0 0, .slice none 0 0])∧Bk.gb=g1∧Bk.gcap=c1∧Bk.cl=g2∧Bk.ccap=c2∧Bk.cu=g3∧Bk.ucap=c3∧owk w.heap.size= .no∧owk (w.heap.size+1)= .no) (fun s4 _ _=> N - (RowKit.intOf s4).toNat)
 case atStart=>
  refine ⟨0,_, .slice none 0 0,_,rfl,rfl,by omega,I0,Xx,Zx,rfl,rfl,rfl,rfl,rfl,rfl, ?_, ?_⟩
  ·show (if w.heap.size=g1 then SOwn.gb else if w.heap.size=g2 then .cl else if w.heap.size=g3 then .cu else ow w.heap.size)= .no
   rw [if_neg (by omega),if_neg (by omega),if_neg (by omega),t0]
  ·show (if w.heap.size+1=g1 then SOwn.gb else if w.heap.size+1=g2 then .cl else if w.heap.size+1=g3 then .cu else ow (w.heap.size+1))= .no
   rw [if_neg (by omega),if_neg (by omega),if_neg (by omega),t1]
 case round=>
  obtain ⟨wk,rfl⟩:∃ W,W=wr:=⟨wr,rfl⟩
  obtain ⟨k,Bk,svv,owk,rfl,hs3,hkN,I,Xk,Zk,e1,e2,e3,e4,e5,e6,n0,n1'⟩:=hrel
  subst hs3
  clear I0 Xx Zx
  have lXk:=Xk.lt
  have lZk:=Zk.lt
  have x6:wk.cell? ⟨w.heap.size,6,none⟩=some (.slice sl N sc0):=by have:=Xk.cL 6 _ (by omega) rfl;rw [this];exact congrArg some HSV.out
  have lwk:w.heap.size≤wk.heap.size:=I.mod.size
  by_cases hk:k < N
  ·obtain ⟨hN,hs0,RS,RI⟩:=HS.out.2.resolve_left (by rintro ⟨h0,_⟩;omega)
   have hkG:k < A.G:=by omega
   have i0:(0:Int)≤k:=by omega
   have i1:(k:Int) < N:=by omega
   have hsl:sl=some ⟨B.so,0,none⟩:=by have:=HSV.out;rw [hs0] at this;exact (by simpa using this.symm:_∧_∧_).1
   rw [hsl] at x6
   have RSo:=RS.mod I.mod (fun h=> h)
   have lso:=RSo.lt
   have s0:=RSo.cell hkG
   clear RSo
   have RSk:=(RI k hkG).mod I.mod (fun h=> h)
   obtain ⟨ip,hp0,hp1,hp2,hp3⟩:=info_parts Tryz.infoSpot
   have HH:=Lib.hid (And.intro hN (And.intro hs0 hsl))
   clear hN hs0 hsl RS RI
   have Is:=I.s
   go_wp2_with (first
    |(at_builtin;refine wpList_app_row rfl _ _ 103 rfl 122 ip (.agg #[.int .u64 0, .int .u32 0, .int .u64 0]) 3 24 Tryz.underlying103 hp0 hp1 hp2 hp3 rfl (by decide) (by decide) (B.si k) A.C (B.sc k) (spt (A.spots k)) RSk hC (by omega) (fun i _=> by unfold spt;split;rfl;split <;> rfl) rfl rfl ?_;intro sg scp w6 a1 a2 a3 RN m6;have Is6:=ownsRow_mod Is m6 (fun _ _ h=> h);have lw6:w.heap.size≤w6.heap.size:=by omega)
    |(at_builtin;go_must (refine wpList_app_c 103 _ 1 24 Tryz.infoSSpot rfl _ _ 46 rfl Tryz.underlying46 rfl (by decide) (by decide) [slc sg A.C scp] rfl (by simp [Value.oneCell']) w.heap.size svv k ((List.range k).map fun g=> slc (Bk.si g) A.C (Bk.sc g)) _ _ rfl rfl ?_ ?_ ?_ ?_ ?_);go_must (· simp;omega);go_must (· omega);go_must (· (repeat first|(with_reducible exact Is6)|(with_reducible refine World.ownsRow.drew ?_)|(with_reducible refine World.ownsRow.alloc ?_ _)));go_must (· exact row_one _ _ _ _ rfl);intro gs cs w7 hB))
   have mB:=hB.mod
   have aq:=hB.at_
   simp only [World.size_alloc] at aq
   have M7:Mod (fun b=> No b∨svv.ownBlock=some b) w6 w7:=Mod.trans ((Mod.refl _ w6).alloc _) (mB.mono (fun b _ h=> .inr h)) (fun _ _ h=> h)
   have I6:=I.no m6
   have z6:=m6.size
   have sgn:owk sg= .no:=Classical.byContradiction fun hh=> by have:=(I.lt _ hh).2;omega
   have svo:∀ b,svv.ownBlock=some b→owk b= .so:=I.sown
   obtain ⟨ow2,I7,ho7⟩:=I6.next (S:=No) (sg:=sg) (scp:=scp) sgn (by omega) RN M7 (fun b h=> h.elim) hB.own (aq.imp id (by omega))
   have nq0:¬(No w.heap.size∨svv.ownBlock=some w.heap.size):=by
    rintro (h|h)
    ·exact h
    ·have:=svo _ h;rw [n0] at this;simp at this
   have nq1:¬(No (w.heap.size+1)∨svv.ownBlock=some (w.heap.size+1)):=by
    rintro (h|h)
    ·exact h
    ·have:=svo _ h;rw [n1'] at this;simp at this
   refine ⟨⟨k+1,_,slc gs (k+1) cs,ow2,by go_num,rfl,by omega,I7,(Xk.mod m6 (fun h=> h)).mod M7 nq0,(Zk.mod m6 (fun h=> h)).mod M7 nq1,e1,e2,e3,e4,e5,e6, ?_, ?_⟩,by simp only [RowKit.intOf];omega⟩
   ·rw [ho7 _ (by omega) (by omega),n0]
   ·rw [ho7 _ (by omega) (by omega),n1']
  ·obtain rfl:k=N:=by omega
   have i1:(k:Int)≤k:=by omega
   obtain ⟨o1,m1',d1,hs1⟩:∃ o m d,svv= .slice o m d:=by
    rcases I.s.2 with ⟨h1,_⟩|⟨gs,cap,_,h1,_⟩
    ·exact ⟨_,_,_,h1⟩
    ·exact ⟨_,_,_,h1⟩
   obtain ⟨o2,m2,d2,ht2⟩:∃ o m d,tv' = .slice o m d:=by
    have hT:=I.tk
    unfold TkAt at hT
    split at hT
    ·obtain ⟨a,c,h1⟩:=hT;exact ⟨_,_,_,h1⟩
    ·obtain ⟨b,c,h1,_⟩:=hT;exact ⟨_,_,_,h1⟩
   subst hs1
   subst ht2
   have j0:=Xk.cL 0 _ (by omega) rfl
   have j1:=Xk.cL 1 _ (by omega) rfl
   have j2:=Xk.cL 2 _ (by omega) rfl
   have j3:=Xk.cL 3 _ (by omega) rfl
   have j4:=Xk.cL 4 _ (by omega) rfl
   have j5:=Xk.cL 5 _ (by omega) rfl
   have j6:=Xk.cL 6 _ (by omega) rfl
   have j_:=Xk.free
   have jf0:=j_ 0
   have jf1:=j_ 1
   have jf2:=j_ 2
   have jf3:=j_ 3
   have jf4:=j_ 4
   have jf5:=j_ 5
   have jf6:=j_ 6
   clear j_
   have jl:=Xk.lt
   have z0:=Zk.cL 0 _ (by omega) rfl
   have z1:=Zk.cL 1 _ (by omega) rfl
   have z2:=Zk.cL 2 _ (by omega) rfl
   have z3:=Zk.cL 3 _ (by omega) rfl
   have z4:=Zk.cL 4 _ (by omega) rfl
   have z5:=Zk.cL 5 _ (by omega) rfl
   have z6:=Zk.cL 6 _ (by omega) rfl
   have z_:=Zk.free
   have zf0:=z_ 0
   have zf1:=z_ 1
   have zf2:=z_ 2
   have zf3:=z_ 3
   have zf4:=z_ 4
   have zf5:=z_ 5
   have zf6:=z_ 6
   clear z_
   have zl:=Zk.lt
   clear j6
   go_wp2
   have mF:Mod (fun b=> b=w.heap.size∨b=w.heap.size+1) wk ((((((((wk.setCell ⟨w.heap.size,6,none⟩ (.slice o1 m1' d1)).setCell ⟨w.heap.size+1,0,none⟩ (.int .i64 A.C)).setCell ⟨w.heap.size+1,1,none⟩ (.int .u64 A.cr)).setCell ⟨w.heap.size+1,2,none⟩ (slc g1 A.G c1)).setCell ⟨w.heap.size+1,3,none⟩ (slc g2 A.C c2)).setCell ⟨w.heap.size+1,4,none⟩ (slc g3 A.C c3)).setCell ⟨w.heap.size+1,5,none⟩ (.slice o2 m2 d2)).setCell ⟨w.heap.size+1,6,none⟩ (.slice o1 m1' d1)):=(((((((((Mod.refl (fun b=> b=w.heap.size∨b=w.heap.size+1) wk).setCell (p:=⟨w.heap.size,6,none⟩) (.inr (.inl rfl)) _).setCell (p:=⟨w.heap.size+1,0,none⟩) (.inr (.inr rfl)) _).setCell (p:=⟨w.heap.size+1,1,none⟩) (.inr (.inr rfl)) _).setCell (p:=⟨w.heap.size+1,2,none⟩) (.inr (.inr rfl)) _).setCell (p:=⟨w.heap.size+1,3,none⟩) (.inr (.inr rfl)) _).setCell (p:=⟨w.heap.size+1,4,none⟩) (.inr (.inr rfl)) _).setCell (p:=⟨w.heap.size+1,5,none⟩) (.inr (.inr rfl)) _).setCell (p:=⟨w.heap.size+1,6,none⟩) (.inr (.inr rfl)) _)
   refine bodyPost_ret (v:= .agg #[.int .i64 A.C, .int .u64 A.cr,slc g1 A.G c1,slc g2 A.C c2,slc g3 A.C c3, .slice o2 m2 d2, .slice o1 m1' d1]) (by simp [results,Tryz.results55,go_sem, *]) rfl ⟨Bk, .slice o2 m2 d2, .slice o1 m1' d1, ?_⟩
   refine ⟨owk,by rw [e1,e2,e3,e4,e5,e6],I.move mF ?_ ?_⟩
   ·rintro b (rfl|rfl)
    ·exact n0
    ·exact n1'
   ·rintro b (rfl|rfl) <;> omega
theorem ref_copied_st (w:World) (o:Nat→SOwn) (A:ASt) (B:STB) (h:StAt w o B A) (hC:0 < A.C) (hC2:A.C≤64) (hG:0 < A.G) (hG2:A.G≤256):
  Calls Tryz.prog 55 #[stv B A] w fun e w' => ∃ B' ow',e= .returned (stv B' A)∧StAt w' ow' B' A∧Mod No w w' ∧∀ b,ow' b≠ .no→w.heap.size≤b:=by
 have htk:TkAt w o B.tv A.task:=by
  have:=h.1 .tk
  simp only [SPart] at this
  cases hA:A.task with
  |none=> rw [hA] at this;exact this
  |some t=> rw [hA] at this;exact this
 refine (ref_copied w A B A.G (slc B.so A.G B.scap) (h.1 .gb).2 (h.1 .cl).2 (h.1 .cu).2 ⟨o,htk⟩ (.inr ⟨rfl,rfl,(h.1 .so).2,fun g hg=> (h.1 (.si g) hg).2⟩) hC hC2 hG hG2).mono ?_
 rintro e w' ⟨B',tv',sv',ow',rfl,I⟩
 obtain ⟨B2,eB,St,hSt⟩:=I.done hG
 exact ⟨B2,ow',congrArg (fun l=> Ending.returned (Value.agg l.toArray)) eB.symm,St,I.mod,hSt⟩
end Go.Q
namespace Go.Q
open Go.RowKit Go.Proofs
section
variable {w:World} {ow:Nat→SOwn} {B:STB} {A:ASt}
theorem StAt.tvo (h:StAt w ow B A):∃ o n c,B.tv= .slice o n c:=by
 have:=h.1 .tk
 simp only [SPart] at this
 split at this
 ·obtain ⟨a,c,h⟩:=this;exact ⟨_,_,_,h⟩
 ·obtain ⟨b,c,h,_⟩:=this;exact ⟨_,_,_,h⟩
def h7 (x:Nat) (w:World) (v0 v1 v2 v3 v4 v5 v6:Value):World:=((((((w.setCell ⟨x,0,none⟩ v0).setCell ⟨x,1,none⟩ v1).setCell ⟨x,2,none⟩ v2).setCell ⟨x,3,none⟩ v3).setCell ⟨x,4,none⟩ v4).setCell ⟨x,5,none⟩ v5).setCell ⟨x,6,none⟩ v6
theorem h7_row {x:Nat} {F:Nat→Value} (R:Row w x 7 F) (v0 v1 v2 v3 v4 v5 v6:Value):Row (h7 x w v0 v1 v2 v3 v4 v5 v6) x 7 (fl [v0,v1,v2,v3,v4,v5,v6]):=
 (((((((R.set (i:=0) (by omega) _).set (i:=1) (by omega) _).set (i:=2) (by omega) _).set (i:=3) (by omega) _).set (i:=4) (by omega) _).set (i:=5) (by omega) _).set (i:=6) (by omega) _).congr (fun i hi=> by rcases (by omega:i=0∨i=1∨i=2∨i=3∨i=4∨i=5∨i=6) with rfl|rfl|rfl|rfl|rfl|rfl|rfl <;> rfl)
theorem h7_mod (x:Nat) (w:World) (v0 v1 v2 v3 v4 v5 v6:Value):Mod (fun b=> b=x) w (h7 x w v0 v1 v2 v3 v4 v5 v6):=
 (((((((Mod.refl (fun b=> b=x) w).setCell (p:=⟨x,0,none⟩) (.inr rfl) _).setCell (p:=⟨x,1,none⟩) (.inr rfl) _).setCell (p:=⟨x,2,none⟩) (.inr rfl) _).setCell (p:=⟨x,3,none⟩) (.inr rfl) _).setCell (p:=⟨x,4,none⟩) (.inr rfl) _).setCell (p:=⟨x,5,none⟩) (.inr rfl) _).setCell (p:=⟨x,6,none⟩) (.inr rfl) _
variable {d:Nat}
set_option maxRecDepth 100000 in
set_option maxHeartbeats 4000000 in
theorem rDo_tick (h:One1 A d) (t:TK) (ht:A.task=some t) (task group weight tO n mask:Int) (c g0:Nat) (hc:c < A.C) (htg:t.group=g0) (hg0:g0 < A.G) (hd:Dep A.par g0 d) (hcur:A.current c=t.id) (hclk:A.clocks c=0) (n1:1≤n) (n2:n≤1000000)
  (hE:REnt t.v t.r t.weight∧t.v≤1000000000000000) (hS:∀ g,0 < g→g < A.G→REnt (A.spots g c).1 (A.spots g c).2.1 (A.wt g)∧(A.spots g c).1≤1000000000000000)
  (A1:ASt) (hA1:A1= { A with clocks:=upd1 A.clocks c n,task:=some { t with v:=t.v+(n * 1048576+t.r) / t.weight,r:=(n * 1048576+t.r) % t.weight },spots:=tkS A n d g0 c 0 }) (hC:0 < A.C) (hC2:A.C≤64)
  (w:World) (ow:Nat→SOwn) (B:STB) (hs:StAt w ow B A):
  Calls Tryz.prog 21 #[stv B A,opv 5 c task group weight tO n mask] w fun e w' => ∃ B' ow',e= .returned (.tuple #[stv B' A1, .int .i64 t.id, .int .i64 0])∧
   StAt w' ow' B' { A1 with spots:=rsp A1 d }∧Mod No w w' ∧∀ b,ow' b≠ .no→w.heap.size≤b:=by
 have hG:=h.T.g2
 have hG1:=h.T.g1
 have h1:One1 A1 d:=by
  rw [hA1]
  refine ⟨h.T,fun t' e=> ?_⟩
  cases e
  exact h.ok t ht
 have eA:stv B A=stv B A1:=by rw [hA1]
 have eC:A1.C=A.C:=by rw [hA1]
 obtain ⟨o0,k0,c0,hv0⟩:=hs.tvo
 have HI:=Lib.hid (And.intro h (And.intro ht (And.intro hd (And.intro hcur (And.intro hclk (And.intro hE (And.intro hS (And.intro hA1 (And.intro h1 (And.intro hs hv0))))))))))
 rw [show stv B A= .agg #[.int .i64 A.C, .int .u64 A.cr,slc B.gb A.G B.gcap,slc B.cl A.C B.ccap,slc B.cu A.C B.ucap, .slice o0 k0 c0,slc B.so A.G B.scap] from by rw [←hv0]]
 have HC:=Lib.hid eC
 clear h ht hd hcur hclk hE hS hA1 h1 eA eC hv0
 go_enter Tryz.func21,Tryz.ntmps21
 go_upto_region 1 with fail
 refine wp_world (fun V=> StAt V ow B A∧Mod No w V∧Row V w.heap.size 7 (fl [.int .i64 A.C, .int .u64 A.cr,slc B.gb A.G B.gcap,slc B.cl A.C B.ccap,slc B.cu A.C B.ucap, .slice o0 k0 c0,slc B.so A.G B.scap])∧Row V (w.heap.size+1) 8 (fl [.int .u8 5, .int .i64 c, .int .i64 task, .int .i64 group, .int .i64 weight, .int .i64 tO, .int .i64 n, .int .u64 mask])∧Row V (w.heap.size+1+1) 7 (fl [.int .i64 0, .int .u64 0, .slice none 0 0, .slice none 0 0, .slice none 0 0, .slice none 0 0, .slice none 0 0])) ?_ ?_
 ·have m:=(((Mod.refl No w).alloc (.cells #[.int .i64 A.C, .int .u64 A.cr,slc B.gb A.G B.gcap,slc B.cl A.C B.ccap,slc B.cu A.C B.ucap, .slice o0 k0 c0,slc B.so A.G B.scap] 48)).alloc (.cells #[.int .u8 5, .int .i64 c, .int .i64 task, .int .i64 group, .int .i64 weight, .int .i64 tO, .int .i64 n, .int .u64 mask] 58)).alloc (.cells #[.int .i64 0, .int .u64 0, .slice none 0 0, .slice none 0 0, .slice none 0 0, .slice none 0 0, .slice none 0 0] 48)
  exact ⟨hs.no m,m,((row_newL w [_,_,_,_,_,_,_] _).alloc _).alloc _,(row_newL' _ _ [_,_,_,_,_,_,_,_] _ (by simp)).alloc _,row_newL' _ _ [_,_,_,_,_,_,_] _ (by simp)⟩
 intro V ⟨S1,m1,X1,O1,Z1⟩
 clear hs
 have x0:=X1.cL 0 _ (by omega) rfl
 have x1:=X1.cL 1 _ (by omega) rfl
 have x2:=X1.cL 2 _ (by omega) rfl
 have x3:=X1.cL 3 _ (by omega) rfl
 have x4:=X1.cL 4 _ (by omega) rfl
 have x5:=X1.cL 5 _ (by omega) rfl
 have x6:=X1.cL 6 _ (by omega) rfl
 have lX:=X1.lt
 go_wp2_with fail
 refine (show Calls Tryz.prog 55 #[.agg #[.int .i64 A.C, .int .u64 A.cr,slc B.gb A.G B.gcap,slc B.cl A.C B.ccap,slc B.cu A.C B.ucap, .slice o0 k0 c0,slc B.so A.G B.scap]] V _ from by rw [←HI.out.2.2.2.2.2.2.2.2.2.2];exact ref_copied_st V ow A B S1 hC hC2 (by omega) hG).mono ?_;rintro e w1 ⟨B1,ow1,rfl,T1,n1',hge1⟩
 obtain ⟨o1,k1,c1,hv1⟩:=T1.tvo
 have e1:stv B1 A= .agg #[.int .i64 A.C, .int .u64 A.cr,slc B1.gb A.G B1.gcap,slc B1.cl A.C B1.ccap,slc B1.cu A.C B1.ucap, .slice o1 k1 c1,slc B1.so A.G B1.scap]:=by rw [←hv1]
 rw [e1]
 have HV:=Lib.hid (And.intro e1 hv1)
 clear e1 hv1 x0 x1 x2 x3 x4 x5 x6 X1
 go_upto_region 2 with fail
 refine wp_world (fun U=> U.heap.size=w1.heap.size+1∧StAt U ow1 B1 A∧Mod No w U∧Row U w1.heap.size 7 (fl [.int .i64 A.C, .int .u64 A.cr,slc B1.gb A.G B1.gcap,slc B1.cl A.C B1.ccap,slc B1.cu A.C B1.ucap, .slice o1 k1 c1,slc B1.so A.G B1.scap])∧Row U (w.heap.size+1) 8 (fl [.int .u8 5, .int .i64 c, .int .i64 task, .int .i64 group, .int .i64 weight, .int .i64 tO, .int .i64 n, .int .u64 mask])∧Row U (w.heap.size+1+1) 7 (fl [.int .i64 0, .int .u64 0, .slice none 0 0, .slice none 0 0, .slice none 0 0, .slice none 0 0, .slice none 0 0])) ?_ ?_
 ·exact ⟨by simp,T1.no ((Mod.refl No w1).alloc _),(Mod.trans m1 n1' (fun _ _ h=> h)).alloc _,row_newL w1 [_,_,_,_,_,_,_] _,(O1.mod n1' (fun h=> h)).alloc _,(Z1.mod n1' (fun h=> h)).alloc _⟩
 intro U ⟨zU,SU,mU,XU,OU,ZU⟩
 have zV1:=n1'.size
 have lZ:=Z1.lt
 have onx:ow1 w1.heap.size= .no:=Classical.byContradiction fun hh=> by have:=T1.2 _ hh;omega
 have hno:∀ b,b < V.heap.size→ow1 b= .no:=fun b hb=> Classical.byContradiction fun hh=> by have:=hge1 b hh;omega
 clear O1 Z1 S1 T1
 obtain ⟨nb,hnb⟩:∃ nb,nb=w1.heap.size:=⟨_,rfl⟩
 rw [←hnb] at XU zU onx zV1 ⊢
 clear hnb
 have x0:=XU.cL 0 _ (by omega) rfl
 have x1:=XU.cL 1 _ (by omega) rfl
 have x2:=XU.cL 2 _ (by omega) rfl
 have x3:=XU.cL 3 _ (by omega) rfl
 have x4:=XU.cL 4 _ (by omega) rfl
 have x5:=XU.cL 5 _ (by omega) rfl
 have x6:=XU.cL 6 _ (by omega) rfl
 have lX:=XU.lt
 have p0:=OU.cL 0 _ (by omega) rfl
 have p1:=OU.cL 1 _ (by omega) rfl
 have p2:=OU.cL 2 _ (by omega) rfl
 have p3:=OU.cL 3 _ (by omega) rfl
 have p4:=OU.cL 4 _ (by omega) rfl
 have p5:=OU.cL 5 _ (by omega) rfl
 have p6:=OU.cL 6 _ (by omega) rfl
 have p7:=OU.cL 7 _ (by omega) rfl
 have lO:=OU.lt
 go_wp2_with fail
 refine (show Calls Tryz.prog 65 #[.agg #[.int .i64 A.C, .int .u64 A.cr,slc B1.gb A.G B1.gcap,slc B1.cl A.C B1.ccap,slc B1.cu A.C B1.ucap, .slice o1 k1 c1,slc B1.so A.G B1.scap],opv 5 c task group weight tO n mask] U _ from by rw [←HV.out.1];exact r_tick HI.out.1 t HI.out.2.1 5 task group weight tO n mask c g0 hc htg hg0 HI.out.2.2.1 HI.out.2.2.2.1 HI.out.2.2.2.2.1 n1 n2 HI.out.2.2.2.2.2.1 HI.out.2.2.2.2.2.2.1 U ow1 B1 SU).mono ?_;rintro e w2 ⟨rfl,S2,m2⟩
 rw [←HI.out.2.2.2.2.2.2.2.1] at S2
 rw [HV.out.1]
 have X2:=XU.mod m2 (by show ¬ow1 nb≠ .no;rw [onx];simp)
 have Z2:=ZU.mod m2 (by show ¬ow1 (w.heap.size+1+1)≠ .no;rw [hno _ lZ];simp)
 have mw2:Mod No w w2:=Mod.trans mU m2 (fun b hb hh=> by have:=hge1 b hh;have:=m1.size;omega)
 clear x0 x1 x2 x3 x4 x5 x6 lX p0 p1 p2 p3 p4 p5 p6 p7 lO
 have x0:=X2.cL 0 _ (by have:=X2.lt;omega) rfl
 have x1:=X2.cL 1 _ (by have:=X2.lt;omega) rfl
 have x2:=X2.cL 2 _ (by have:=X2.lt;omega) rfl
 have x3:=X2.cL 3 _ (by have:=X2.lt;omega) rfl
 have x4:=X2.cL 4 _ (by have:=X2.lt;omega) rfl
 have x5:=X2.cL 5 _ (by have:=X2.lt;omega) rfl
 have x6:=X2.cL 6 _ (by have:=X2.lt;omega) rfl
 have gf0:=X2.free 0
 have gf1:=X2.free 1
 have gf2:=X2.free 2
 have gf3:=X2.free 3
 have gf4:=X2.free 4
 have gf5:=X2.free 5
 have gf6:=X2.free 6
 have lX:=X2.lt
 go_upto_region 26 with fail
 refine wp_world (fun W=> StAt W ow1 B1 A1∧Row W nb 7 (fl [.int .i64 A.C, .int .u64 A.cr,slc B1.gb A.G B1.gcap,slc B1.cl A.C B1.ccap,slc B1.cu A.C B1.ucap, .slice o1 k1 c1,slc B1.so A.G B1.scap])∧Row W (w.heap.size+1+1) 7 (fl [.int .i64 0, .int .u64 0, .slice none 0 0, .slice none 0 0, .slice none 0 0, .slice none 0 0, .slice none 0 0])∧Mod No w W) ?_ ?_
 ·have hm:=h7_mod nb w2 (.int .i64 A.C) (.int .u64 A.cr) (slc B1.gb A.G B1.gcap) (slc B1.cl A.C B1.ccap) (slc B1.cu A.C B1.ucap) (.slice o1 k1 c1) (slc B1.so A.G B1.scap)
  have nbw:w.heap.size+1+1 < nb:=by omega
  exact ⟨S2.mod hm (by rintro b rfl;exact onx),h7_row X2 _ _ _ _ _ _ _,Z2.mod hm (by show ¬w.heap.size+1+1=nb;omega),Mod.trans mw2 hm (fun b hb e=> by have:b=nb:=e;omega)⟩
 intro W ⟨S3,X3,Z3,m3⟩
 clear S2 X2 Z2 mw2 m2 x0 x1 x2 x3 x4 x5 x6 lX gf0 gf1 gf2 gf3 gf4 gf5 gf6
 have x0:=X3.cL 0 _ (by have:=X3.lt;omega) rfl
 have x1:=X3.cL 1 _ (by have:=X3.lt;omega) rfl
 have x2:=X3.cL 2 _ (by have:=X3.lt;omega) rfl
 have x3:=X3.cL 3 _ (by have:=X3.lt;omega) rfl
 have x4:=X3.cL 4 _ (by have:=X3.lt;omega) rfl
 have x5:=X3.cL 5 _ (by have:=X3.lt;omega) rfl
 have x6:=X3.cL 6 _ (by have:=X3.lt;omega) rfl
 have lX:=X3.lt
 have eC1:=HC.out
 have eS:stv B1 A=stv B1 A1:=by rw [HI.out.2.2.2.2.2.2.2.1]
 have HS:=Lib.hid (And.intro eC1 eS)
 clear eC1 eS
 go_wp2_with fail
 refine (show Calls Tryz.prog 70 #[.agg #[.int .i64 A.C, .int .u64 A.cr,slc B1.gb A.G B1.gcap,slc B1.cl A.C B1.ccap,slc B1.cu A.C B1.ucap, .slice o1 k1 c1,slc B1.so A.G B1.scap]] W _ from by rw [←HV.out.1,HS.out.2];exact r_raised HI.out.2.2.2.2.2.2.2.2.1 W ow1 B1 S3 (by rw [HS.out.1];exact hC) (by rw [HS.out.1];exact hC2)).mono ?_;rintro e w3 ⟨rfl,S4,m4⟩
 rw [←HS.out.2,HV.out.1]
 have Z4:=Z3.mod m4 (by show ¬ow1 (w.heap.size+1+1)≠ .no;rw [hno _ lZ];simp)
 have mw4:Mod No w w3:=Mod.trans m3 m4 (fun b hb hh=> by have:=hge1 b hh;have:=m1.size;omega)
 have z0:=Z4.cL 0 _ (by have:=Z4.lt;omega) rfl
 have z1:=Z4.cL 1 _ (by have:=Z4.lt;omega) rfl
 have z2:=Z4.cL 2 _ (by have:=Z4.lt;omega) rfl
 have z3:=Z4.cL 3 _ (by have:=Z4.lt;omega) rfl
 have z4:=Z4.cL 4 _ (by have:=Z4.lt;omega) rfl
 have z5:=Z4.cL 5 _ (by have:=Z4.lt;omega) rfl
 have z6:=Z4.cL 6 _ (by have:=Z4.lt;omega) rfl
 have gf0:=Z4.free 0
 have gf1:=Z4.free 1
 have gf2:=Z4.free 2
 have gf3:=Z4.free 3
 have gf4:=Z4.free 4
 have gf5:=Z4.free 5
 have gf6:=Z4.free 6
 have lZ4:=Z4.lt
 clear x0 x1 x2 x3 x4 x5 x6 lX X3 S3 Z3
 go_wp2
 have hm:=h7_mod (w.heap.size+1+1) w3 (.int .i64 A.C) (.int .u64 A.cr) (slc B1.gb A.G B1.gcap) (slc B1.cl A.C B1.ccap) (slc B1.cu A.C B1.ucap) (.slice o1 k1 c1) (slc B1.so A.G B1.scap)
 refine bodyPost_ret (v:= .tuple #[.agg #[.int .i64 A.C, .int .u64 A.cr,slc B1.gb A.G B1.gcap,slc B1.cl A.C B1.ccap,slc B1.cu A.C B1.ucap, .slice o1 k1 c1,slc B1.so A.G B1.scap], .int .i64 t.id, .int .i64 0]) (by simp [results,Tryz.results21,go_sem, *]) rfl ⟨B1,ow1,by rw [←HS.out.2,HV.out.1],S4.mod hm (by rintro b rfl;exact hno _ lZ),Mod.trans mw4 hm (fun b hb e=> by have:b=w.heap.size+1+1:=e;omega),fun b hb=> by have:=hge1 b hb;have:=m1.size;omega⟩
end
end Go.Q
