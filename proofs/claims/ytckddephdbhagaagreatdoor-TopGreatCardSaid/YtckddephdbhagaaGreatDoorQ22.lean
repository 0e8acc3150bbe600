/- A part of the proof that TopGreat answers true: what some of the functions on its road compute. -/
import Derived.Deep.DeepCutAuto
import Derived.Test.YtckddephdbhagaaGreatDoorQ3
import Derived.Test.YtckddephdbhagaaGreatDoorQ17
import Derived.Test.YtckddephdbhagaaGreatDoorQ19
import Derived.Test.YtckddephdbhagaaGreatDoorQ21
set_option linter.unusedVariables false
set_option linter.unusedSimpArgs false
namespace Go.Q
open Go.RowKit Go.Proofs
structure Own4 (z n:Nat) (o:Nat→Nat→Prop):Prop where
 zn:z≤n
 lo:∀ i b,o i b→z≤b
 lt:∀ i b,o i b→b < n
 ap:∀ i j b,o i b→o j b→i=j
theorem Own4.step {z n n' :Nat} {o o' :Nat→Nat→Prop} (h:Own4 z n o) (i:Nat) (hn:n≤n') (hp:∀ b,o' i b→o i b∨n≤b) (hl:∀ b,o' i b→b < n') (he:∀ j b,j≠i→(o' j b↔o j b)):Own4 z n' o' :=by
 have hz:=h.zn
 refine ⟨by omega,fun j b hb=> ?_,fun j b hb=> ?_,fun j k b hj hk=> ?_⟩
 ·by_cases e:j=i
  ·subst e
   rcases hp b hb with h1|h1
   ·exact h.lo _ b h1
   ·omega
  ·exact h.lo j b ((he j b e).1 hb)
 ·by_cases e:j=i
  ·subst e;exact hl b hb
  ·have:=h.lt j b ((he j b e).1 hb);omega
 ·by_cases ej:j=i
  ·by_cases ek:k=i
   ·omega
   ·have h2:=(he k b ek).1 hk
    subst ej
    rcases hp b hj with h1|h1
    ·exact h.ap _ _ b h1 h2
    ·have:=h.lt k b h2;omega
  ·have h2:=(he j b ej).1 hj
   by_cases ek:k=i
   ·subst ek
    rcases hp b hk with h1|h1
    ·exact h.ap _ _ b h2 h1
    ·have:=h.lt j b h2;omega
   ·exact h.ap _ _ b h2 ((he k b ek).1 hk)
theorem Own4.mk5 {z n:Nat} {o:Nat→Nat→Prop} (a1 a2 a4 a5 a6 a7 a8 a9:Nat) (h1:z≤a1) (h2:a1≤a2) (h3:a2 < a4) (h4:a4≤a5) (h5:a5≤a6) (h6:a6≤a7) (h7:a7≤a8) (h8:a8≤a9) (h9:a9 < n)
  (f0:∀ b,o 0 b→a1≤b∧b < a2) (f1:∀ b,o 1 b→a4≤b∧b < a5) (f2:∀ b,o 2 b→a6≤b∧b < a7) (f3:∀ b,o 3 b→a8≤b∧b < a9) (f4:∀ b,o 4 b→b=a2∨b=a9) (f5:∀ i b,¬o (i+5) b):Own4 z n o:=by
 have key:∀ i b,o i b→(i=0∧a1≤b∧b < a2)∨(i=1∧a4≤b∧b < a5)∨(i=2∧a6≤b∧b < a7)∨(i=3∧a8≤b∧b < a9)∨(i=4∧(b=a2∨b=a9)):=fun i b h=> by
  match i,h with
  |0,h=> have:=f0 b h;omega
  |1,h=> have:=f1 b h;omega
  |2,h=> have:=f2 b h;omega
  |3,h=> have:=f3 b h;omega
  |4,h=> have:=f4 b h;omega
  |i+5,h=> exact absurd h (f5 i b)
 refine ⟨by omega,fun i b h=> ?_,fun i b h=> ?_,fun i j b hi hj=> ?_⟩
 ·have:=key i b h;omega
 ·have:=key i b h;omega
 ·have:=key i b hi;have:=key j b hj;omega
def o4 (owR:Nat→SOwn) (owS:Nat→Own) (owM:Nat→SOwn) (m:Nat) (owD:Nat→Own) (D:DB) (E:Nat→Prop):Nat→Nat→Prop
 |0,b=> owR b≠ .no
 |1,b=> owS b≠ .no
 |2,b=> owM b≠ .no∨b=m
 |3,b=> owD b≠ .no∨DOwn D b
 |4,b=> E b
 |_,_=> False
structure TI (z:Nat) (w:World) (c0:Nat) (AR:ASt) (PS:SSt→Prop) (AM:ASt) (PX:SSt→Prop) (nx:Int) (u:Nat) (BR:STB) (owR:Nat→SOwn) (xs:Nat) (BS:SB) (owS:Nat→Own) (ss:SSt) (m:Nat) (BM:STB) (owM:Nat→SOwn) (xd:Nat) (BD:SB) (owD:Nat→Own) (sd:SSt) (D:DB) (E:Nat→Prop):Prop where
 own:Own4 z w.heap.size (o4 owR owS owM m owD D E)
 R:StAt w owR BR AR
 S:SAt w owS xs BS ss
 SP:PS ss
 M:MAt w m owM BM AM
 mt:AM.task=none→BM.tv= .slice none 0 0
 X:SAt w owD xd BD sd
 XP:PX sd
 D:DAt w owD xd D nx c0 u
section
variable {z:Nat} {w w' :World} {c0:Nat} {AR AM:ASt} {PS PX:SSt→Prop} {nx:Int} {u:Nat} {BR:STB} {owR:Nat→SOwn} {xs:Nat} {BS:SB} {owS:Nat→Own} {ss:SSt} {m:Nat} {BM:STB} {owM:Nat→SOwn} {xd:Nat} {BD:SB} {owD:Nat→Own} {sd:SSt} {D:DB} {E:Nat→Prop}
variable (h:TI z w c0 AR PS AM PX nx u BR owR xs BS owS ss m BM owM xd BD owD sd D E)
include h
theorem TI.ap (i j b:Nat) (hij:i≠j) (hi:o4 owR owS owM m owD D E i b):¬o4 owR owS owM m owD D E j b:=fun hj=> hij (h.own.ap i j b hi hj)
theorem TI.notO (i b:Nat) (hb:w.heap.size≤b):¬o4 owR owS owM m owD D E i b:=fun e=> by have:=h.own.lt i b e;omega
theorem TI.notE (i b:Nat) (hi:4≠i) (hb:E b):¬o4 owR owS owM m owD D E i b:=h.ap 4 i b hi hb
theorem TI.no (hm:Mod No w w'):TI z w' c0 AR PS AM PX nx u BR owR xs BS owS ss m BM owM xd BD owD sd D E:=
 ⟨h.own.step 5 hm.size (fun b hb=> hb.elim) (fun b hb=> hb.elim) (fun _ _ _=> Iff.rfl),h.R.no hm,h.S.no hm,h.SP,h.M.no hm,h.mt,h.X.no hm,h.XP,h.D.mod hm (fun _ _ e=> e) h.D.own⟩
theorem TI.ref {A' :ASt} {B' :STB} {ow' :Nat→SOwn} (hm:Mod No w w') (hs:StAt w' ow' B' A') (hn:∀ b,ow' b≠ .no→w.heap.size≤b):TI z w' c0 A' PS AM PX nx u B' ow' xs BS owS ss m BM owM xd BD owD sd D E:=
 ⟨h.own.step 0 hm.size (fun b hb=> .inr (hn b hb)) (fun b hb=> hs.2 b hb) (fun j b hj=> by
   match j,hj with
   |0,hj=> exact absurd rfl hj
   |1,_=> exact Iff.rfl
   |2,_=> exact Iff.rfl
   |3,_=> exact Iff.rfl
   |4,_=> exact Iff.rfl
   |_+5,_=> exact Iff.rfl),hs,h.S.no hm,h.SP,h.M.no hm,h.mt,h.X.no hm,h.XP,h.D.mod hm (fun _ _ e=> e) h.D.own⟩
theorem TI.sched {P' :SSt→Prop} {s' :SSt} {B' :SB} {ow' :Nat→Own} (hm:Mod (fun b=> owS b≠ .no) w w') (ho:∀ b,b < w.heap.size→ow' b=owS b) (hs:SAt w' ow' xs B' s') (hP:P' s'):TI z w' c0 AR P' AM PX nx u BR owR xs B' ow' s' m BM owM xd BD owD sd D E:=by
 refine ⟨h.own.step 1 hm.size (fun b hb=> ?_) (fun b hb=> hs.2 b hb) (fun j b hj=> by
   match j,hj with
   |0,_=> exact Iff.rfl
   |1,hj=> exact absurd rfl hj
   |2,_=> exact Iff.rfl
   |3,_=> exact Iff.rfl
   |4,_=> exact Iff.rfl
   |_+5,_=> exact Iff.rfl), ?_,hs,hP, ?_,h.mt, ?_,h.XP, ?_⟩
 ·by_cases e:b < w.heap.size
  ·left;show owS b≠ .no;rw [←ho b e];exact hb
  ·right;omega
 ·exact h.R.mod hm (fun b hb=> Classical.byContradiction fun e=> h.ap 1 0 b (by omega) hb e)
 ·exact h.M.mod hm (fun hb=> h.ap 1 2 m (by omega) hb (.inr rfl)) (fun b hb=> Classical.byContradiction fun e=> h.ap 1 2 b (by omega) hb (.inl e))
 ·exact h.X.mod hm (fun b hb=> Classical.byContradiction fun e=> h.ap 1 3 b (by omega) hb (.inl e))
 ·exact h.D.mod hm (fun b hb hb' => h.ap 1 3 b (by omega) hb' (.inr hb)) h.D.own
theorem TI.model {A' :ASt} {B' :STB} {ow' :Nat→SOwn} (hm:Mod (fun b=> owM b≠ .no∨b=m) w w') (ho:∀ b,b < w.heap.size→ow' b=owM b) (hs:MAt w' m ow' B' A') (ht:A'.task=none→B'.tv= .slice none 0 0):TI z w' c0 AR PS A' PX nx u BR owR xs BS owS ss m B' ow' xd BD owD sd D E:=by
 have hz:=hm.size
 have lm:=h.own.lt 2 m (.inr rfl)
 refine ⟨h.own.step 2 hm.size (fun b hb=> ?_) (fun b hb=> ?_) (fun j b hj=> by
   match j,hj with
   |0,_=> exact Iff.rfl
   |1,_=> exact Iff.rfl
   |2,hj=> exact absurd rfl hj
   |3,_=> exact Iff.rfl
   |4,_=> exact Iff.rfl
   |_+5,_=> exact Iff.rfl), ?_, ?_,h.SP,hs,ht, ?_,h.XP, ?_⟩
 ·rcases hb with hb|hb
  ·by_cases e:b < w.heap.size
   ·left;left;show owM b≠ .no;rw [←ho b e];exact hb
   ·right;omega
  ·exact .inl (.inr hb)
 ·rcases hb with hb|hb
  ·exact hs.st.2 b hb
  ·subst hb;omega
 ·exact h.R.mod hm (fun b hb=> Classical.byContradiction fun e=> h.ap 2 0 b (by omega) hb e)
 ·exact h.S.mod hm (fun b hb=> Classical.byContradiction fun e=> h.ap 2 1 b (by omega) hb e)
 ·exact h.X.mod hm (fun b hb=> Classical.byContradiction fun e=> h.ap 2 3 b (by omega) hb (.inl e))
 ·exact h.D.mod hm (fun b hb hb' => h.ap 2 3 b (by omega) hb' (.inr hb)) h.D.own
theorem TI.drv {P' :SSt→Prop} {s' :SSt} {B' :SB} {ow' :Nat→Own} {D' :DB} (hs:SAt w' ow' xd B' s') (hP:P' s') (hd:DAt w' ow' xd D' (nx+1) c0 (u+1)) (hm:Mod (fun b=> owD b≠ .no∨DOwn D b) w w') (ho:∀ b,b < w.heap.size→ow' b=owD b) (hn:∀ b,DOwn D' b→DOwn D b∨w.heap.size≤b):TI z w' c0 AR PS AM P' (nx+1) (u+1) BR owR xs BS owS ss m BM owM xd B' ow' s' D' E:=by
 refine ⟨h.own.step 3 hm.size (fun b hb=> ?_) (fun b hb=> ?_) (fun j b hj=> by
   match j,hj with
   |0,_=> exact Iff.rfl
   |1,_=> exact Iff.rfl
   |2,_=> exact Iff.rfl
   |3,hj=> exact absurd rfl hj
   |4,_=> exact Iff.rfl
   |_+5,_=> exact Iff.rfl), ?_, ?_,h.SP, ?_,h.mt,hs,hP,hd⟩
 ·rcases hb with hb|hb
  ·by_cases e:b < w.heap.size
   ·left;left;show owD b≠ .no;rw [←ho b e];exact hb
   ·right;omega
  ·rcases hn b hb with e|e
   ·exact .inl (.inr e)
   ·exact .inr e
 ·rcases hb with hb|hb
  ·exact hs.2 b hb
  ·exact hd.lt b hb
 ·exact h.R.mod hm (fun b hb=> Classical.byContradiction fun e=> h.ap 3 0 b (by omega) hb e)
 ·exact h.S.mod hm (fun b hb=> Classical.byContradiction fun e=> h.ap 3 1 b (by omega) hb e)
 ·exact h.M.mod hm (fun hb=> h.ap 3 2 m (by omega) hb (.inr rfl)) (fun b hb=> Classical.byContradiction fun e=> h.ap 3 2 b (by omega) hb (.inl e))
theorem TI.ext {E' :Nat→Prop} (hm:Mod E w w') (he:∀ b,E' b→E b∨w.heap.size≤b) (hl:∀ b,E' b→b < w'.heap.size):TI z w' c0 AR PS AM PX nx u BR owR xs BS owS ss m BM owM xd BD owD sd D E' :=
 ⟨h.own.step 4 hm.size (fun b hb=> he b hb) (fun b hb=> hl b hb) (fun j b hj=> by
   match j,hj with
   |0,_=> exact Iff.rfl
   |1,_=> exact Iff.rfl
   |2,_=> exact Iff.rfl
   |3,_=> exact Iff.rfl
   |4,hj=> exact absurd rfl hj
   |_+5,_=> exact Iff.rfl),
  h.R.mod hm (fun b hb=> Classical.byContradiction fun e=> h.ap 4 0 b (by omega) hb e),
  h.S.mod hm (fun b hb=> Classical.byContradiction fun e=> h.ap 4 1 b (by omega) hb e),h.SP,
  h.M.mod hm (fun hb=> h.ap 4 2 m (by omega) hb (.inr rfl)) (fun b hb=> Classical.byContradiction fun e=> h.ap 4 2 b (by omega) hb (.inl e)),h.mt,
  h.X.mod hm (fun b hb=> Classical.byContradiction fun e=> h.ap 4 3 b (by omega) hb (.inl e)),h.XP,
  h.D.mod hm (fun b hb hb' => h.ap 4 3 b (by omega) hb' (.inr hb)) h.D.own⟩
theorem TI.lo (i:Nat) {S:Nat→Prop} (hm:Mod S w w') (hs:∀ b,S b→o4 owR owS owM m owD D E i b) (w0:World) (h0:w0.heap.size=z) (m0:Mod No w0 w):Mod No w0 w' :=
 Mod.trans m0 hm (fun b hb e=> by have:=h.own.lo i b (hs b e);omega)
end
end Go.Q
namespace Go.Q
open Go.RowKit Go.Proofs
set_option maxRecDepth 100000 in
set_option maxHeartbeats 1000000 in
theorem enter_ok (w:World) (ow:Nat→Own) (x:Nat) (B:SB) (s:SSt) (t:TSt) (id:Int) (c g d:Nat) (hs:SAt w ow x B s) (ht:s.task=some t) (hc:c < s.C) (hcpu:t.cpu=c) (hg:g < s.G) (hgr:t.group=g) (T:Tree s.G s.par s.wt) (hd:Dep s.par g d)
  (hq:∀ g',g' ≤g→s.qs g' c= .e 0 0) (hcr:0≤s.cr) (he:REnt t.v t.r t.k) (haz:∀ g,s.aside g c=(0,0)) (h0:0≤id) (h1:id < 65536) (hl0:0≤s.loads c) (hl1:s.loads c≤1000000) (hw0:0≤t.weight) (hw1:t.weight≤1000000) (hk0:0≤s.work) (hk1:s.work≤1000000) (hd4:d≤4):
  Calls Tryz.prog 354 #[ptr x, .int .i64 id,ptr B.tk] w fun e w' => e= .returned (.tuple #[])∧Mod (fun b=> ow b≠ .no) w w' ∧∃ ow',(∀ b,b < w.heap.size→ow' b=ow b)∧SAt w' ow' x B { s with loads:=upd1 s.loads c (s.loads c+t.weight),work:=s.work+(d+1),task:=some { t with ready:=true },qs:=entQ s.par s.wt s.aside c d g id t.v t.r t.k s.qs }:=by
 obtain ⟨t0,t1,t2,t3,t4,t5,t6,t7⟩:=hs.tp ht
 rw [hgr] at t0
 rw [hcpu] at t2
 obtain ⟨x0,x1,x2,x3,x4,x5,x6,x7,x8,x9⟩:=hs.look
 have rt:=hs.1 .tk t ht
 have ft:=rt.2.free 4
 have lt:=rt.2.lt
 have rl:=hs.1 .lb
 have r0:=rl.2.cell hc
 have fl0:=rl.2.free c
 have ll:=rl.2.lt
 have lx:=hs.cx.2.lt
 have j0:(0:Int)≤c:=by omega
 have j1:(c:Int) < s.C:=by omega
 have dtl:B.tk≠B.lb:=by rintro e;have:=rt.1;rw [e,rl.1] at this;simp at this
 have dtx:B.tk≠x:=by rintro e;have:=rt.1;rw [e,hs.cx.1] at this;simp at this
 have dlx:B.lb≠x:=by rintro e;have:=rl.1;rw [e,hs.cx.1] at this;simp at this
 have dlt:=dtl.symm
 simp only [ints] at r0
 have HG:=Lib.hid hgr
 have HC:=Lib.hid hcpu
 have HT:=Lib.hid ht
 have HQ:=Lib.hid hq
 have HZ:=Lib.hid haz
 clear hgr hcpu ht hq haz
 go_enter Tryz.func354,Tryz.ntmps354
 go_upto_region 1 with fail
 (refine wp_region_tail 15 (by kernel_rfl) (by kernel_rfl) ?_;simp only [List.take_succ_cons,List.take_zero,List.drop_succ_cons,List.drop_zero];repeat still_step);refine wpStill_nil ?_
 go_upto_region 2 with fail
 refine wp_world (fun W=> SAt W ow x B { s with loads:=upd1 s.loads c (s.loads c+t.weight),task:=some { t with ready:=true } }∧Mod (fun b=> ow b≠ .no) w W) ?_ ?_
 ·have m1:Mod (fun b=> ow b= .tk∧Own.tk≠ .no) w (w.setCell ⟨B.tk,4,none⟩ (.bool true)):=(Mod.refl _ w).setCell (.inr ⟨rt.1,by simp⟩) _
  have S1:SAt (w.setCell ⟨B.tk,4,none⟩ (.bool true)) ow x B { s with task:=some { t with ready:=true } }:=by
   refine hs.set .tk m1 ?_ ?_
   ·rintro t' ht'
    obtain rfl:=Option.some.inj ht'
    refine ⟨rt.1,(rt.2.set (i:=4) (by omega) _).congr (fun i hi=> ?_)⟩
    rcases (by omega:i=0∨i=1∨i=2∨i=3∨i=4∨i=5∨i=6∨i=7) with rfl|rfl|rfl|rfl|rfl|rfl|rfl|rfl <;> rfl
   ·intro t' ht' hp
    cases t' with
    |tk=> exact absurd rfl ht'
    |tb=> have:=HT.out;simp only [Part,tmapv,this] at hp ⊢;exact hp
    |_=> exact hp
  have rl1:=S1.1 .lb
  have m2:=(Mod.refl (fun b=> ow b= .lb∧Own.lb≠ .no) (w.setCell ⟨B.tk,4,none⟩ (.bool true))).setCell (p:=⟨B.lb,c,none⟩) (.inr ⟨rl1.1,by simp⟩) (.int .i64 (s.loads c+t.weight))
  refine ⟨(S1.set .lb m2 ?_ ?_).no (Mod.refl _ _).drew, ?_⟩
  ·refine ⟨rl1.1,(rl1.2.set hc _).congr (fun i hi=> ?_)⟩
   simp only [ints,upd1]
   split <;> rfl
  ·intro t' ht' hp
   cases t' with
   |lb=> exact absurd rfl ht'
   |_=> exact hp
  ·exact (Mod.trans (m1.mono (fun b _ h=> by rw [h.1];simp)) (m2.mono (fun b _ h=> by rw [h.1];simp)) (fun _ _ h=> h)).drew
 intro W ⟨S1,M1⟩
 clear t0 t1 t2 t3 t4 t5 t6 t7 x0 x1 x2 x3 x4 x5 x6 x7 x8 x9 ft fl0 r0
 obtain ⟨t0,t1,t2,t3,t4,t5,t6,t7⟩:=S1.tp rfl
 have lt1:=(S1.1 .tk _ rfl).2.lt
 dsimp only at t0 t1 t2 t3 t4 t5 t6 t7
 rw [HG.out] at t0
 rw [HC.out] at t2
 go_region_held3 (fun w' => w'.cell? ⟨B.tk,5,none⟩=some (.int .u64 t.v)∧w'.cell? ⟨B.tk,6,none⟩=some (.int .u32 t.r)∧w'.cell? ⟨B.tk,7,none⟩=some (.int .u32 t.k)) ((repeat' apply And.intro) <;> go_simp) (fail)
 go_upto_region 3 with fail
 refine wp_world (fun V=> SAt V ow x B { s with loads:=upd1 s.loads c (s.loads c+t.weight),task:=some { t with ready:=true } }∧Mod (fun b=> ow b≠ .no) w V∧Row V W.heap.size 3 (fl [.int .u64 t.v, .int .u32 t.r, .int .u32 t.k])∧W.heap.size < V.heap.size) ?_ ?_
 ·have m3:Mod No W ((W.alloc (.cells #[.int .u64 t.v, .int .u32 t.r, .int .u32 t.k] 138)).drew):=(((Mod.refl No W).alloc _)).drew
  refine ⟨S1.no m3,Mod.trans M1 m3 (fun _ _ h=> False.elim h),Row.drew (row_newL W [_,_,_] _),by simp⟩
 intro V ⟨S2,M2,L2,lV⟩
 have bln:ow W.heap.size= .no:=Classical.byContradiction fun h=> by have:=S1.2 _ h;omega
 have hbw:w.heap.size≤W.heap.size:=M1.size
 obtain ⟨bl,hbl⟩:∃ n,n=W.heap.size:=⟨_,rfl⟩
 rw [←hbl] at L2 bln hbw lV ⊢
 clear t0 t1 t2 t3 t4 t5 t6 t7 lt1 M1 S1 hbl
 obtain ⟨t0,t1,t2,t3,t4,t5,t6,t7⟩:=S2.tp rfl
 dsimp only at t0 t2
 rw [HG.out] at t0
 rw [HC.out] at t2
 go_wp2
 go_loopw [6,8] (fun s6 s8 wr=> ∃ (dd gg:Nat) (m v r k:Int) (f:Nat→Nat→QSt) (ow' :Nat→Own),s6= .int .i64 m∧s8= .int .i64 gg∧Dep s.par gg dd∧dd≤d∧gg < s.G∧entQ s.par s.wt s.aside c dd gg m v r k f=entQ s.par s.wt s.aside c d g id t.v t.r t.k s.qs∧(∀ g',g' ≤gg→f g' c= .e 0 0)∧REnt v r k∧0≤m∧m < 65792∧
   SAt wr ow' x B { s with loads:=upd1 s.loads c (s.loads c+t.weight),task:=some { t with ready:=true },qs:=f,work:=s.work+(d - dd:Nat) }∧Row wr bl 3 (fl [.int .u64 v, .int .u32 r, .int .u32 k])∧ow' bl= .no∧Mod (fun b=> ow b≠ .no) w wr∧(∀ b,b < w.heap.size→ow' b=ow b)) (fun _ v _=> (RowKit.intOf v).toNat)
 case atStart=>
  exact ⟨d,g,id,t.v,t.r,t.k,s.qs,ow,rfl,rfl,hd,by omega,hg,rfl,HQ.out,he,h0,by omega,by simpa using S2,L2,bln,M2,fun _ _=> rfl⟩
 case round=>
  obtain ⟨dd,gg,m,v,r,k,f,ow',rfl,rfl,hD,hdd,hgg,hE,hf,hR,hm0,hm1,S3,L3,bn,M3,ho⟩:=hrel
  have HE:=Lib.hid hE
  clear hE t0 t1 t2 t3 t4 t5 t6 t7 S2 L2 M2
  have hfg:=hf gg (Nat.le_refl _)
  obtain ⟨t0,t1,t2,t3,t4,t5,t6,t7⟩:=S3.tp rfl
  obtain ⟨x0,x1,x2,x3,x4,x5,x6,x7,x8,x9⟩:=S3.look
  obtain ⟨q0,q1⟩:=S3.qp (g:=gg) (c:=c) hgg hc
  dsimp only at t0 t2 x1 x6 x7 x9 q0 q1
  rw [HG.out] at t0
  rw [HC.out] at t2
  have i0:(0:Int)≤gg:=by omega
  have i1:(gg:Int) < s.G:=by omega
  have HF:=Lib.hid hf
  clear hf
  go_upto_region 5 with fail
  go_quiet (fail)
  go_wp2_with fail
  refine (sLen (S3.no ((Mod.refl No wr).drewN _)) hgg hc).mono ?_;rintro e w3 ⟨rfl,rfl⟩
  simp only [hfg,QSt.len]
  go_wp2_with fail
  refine (sFloor (S3.no ((Mod.refl No wr).drewN _)) hgg hc).mono ?_;rintro e w3 ⟨rfl,rfl⟩
  simp only [hfg,QSt.fl]
  have lbl:=L3.lt
  have k0:=L3.cL 0 _ (by omega) rfl
  have k1:=L3.cL 1 _ (by omega) rfl
  have k2:=L3.cL 2 _ (by omega) rfl
  have fk:=L3.free
  have fk0:=fk 0
  have fk1:=fk 1
  have fk2:=fk 2
  have HFG:=Lib.hid hfg
  clear hfg fk
  go_upto_if 62 with fail
  go_cut [] (fun wx=> SAt wx ow' x B { s with loads:=upd1 s.loads c (s.loads c+t.weight),task:=some { t with ready:=true },qs:=f,work:=s.work+(d - dd:Nat) }∧Row wx bl 3 (fl [.int .u64 v, .int .u32 r, .int .u32 k])∧Mod (fun b=> ow b≠ .no) w wx)
  case first=>
   by_cases hm:m < 65536
   ·go_wp2_with fail
    go_meet
    exact ⟨S3.no ((Mod.refl No wr).drewN _),L3.drewN _,M3.drewN _⟩
   ·have hm' :65536≤m:=by omega
    go_wp2_with fail
    refine wp_region_chain (fun w' => w'.cell? ⟨bl,0,none⟩=some (.int .u64 v)∧w'.cell? ⟨bl,1,none⟩=some (.int .u32 r)∧w'.cell? ⟨bl,2,none⟩=some (.int .u32 k)∧w'.cell? ⟨x,1,none⟩=some (.int .u64 s.cr)) [7,11] [10] [11] (rds [0,1,2,3,4,5,6] (.ef 7 (rds [8,9,10] (.ef 11 .nil)))) (by kernel_rfl) (by kernel_rfl) ⟨k0,k1,k2,x1⟩ ?_
    intro O hO
    have HO:=Lib.hid hO
    clear hO
    simp only [rds]
    (repeat (first|(refine lxp HO (v:=?_) (fun w'=> ?_) ?_;rotate_left;(focus (go_simp;(try exact rfl);done));try go_simp)|(refine lxr HO (v:=?_) (fun w' hC'=> ?_) ?_;rotate_left;(focus (obtain ⟨c0,c1,c2,c3⟩:=hC';go_simp;(try exact rfl);done));try go_simp)|(refine lxo HO ?_;try go_simp)))
    refine lxe HO (fun Kx hKx=> ?_)
    go_simp
    refine (woken_same v r k 0 s.cr hR (by omega) hcr _).mono ?_;rintro e w3 ⟨rfl,hb3⟩
    have m33:Mod No wr w3:=Mod.trans ((Mod.refl No wr).drewN (nq+1)) (Mod.of_below hb3 No) (fun _ _ h=> h)
    have L3' :Row w3 bl 3 (fl [.int .u64 v, .int .u32 r, .int .u32 k]):=L3.mod m33 (fun h=> h)
    have X3' :=(S3.no m33).look.2.1
    have g0:=L3'.free 0
    have g1:=L3'.free 1
    have g2:=L3'.free 2
    have l3:=L3'.lt
    have e0:=L3'.cL 0 _ (by omega) rfl
    have e1:=L3'.cL 1 _ (by omega) rfl
    have e2:=L3'.cL 2 _ (by omega) rfl
    refine hKx _ _ (.inr ⟨e0,e1,e2,X3'⟩) ?_
    clear hKx Kx
    (repeat (first|(refine lxp HO (v:=?_) (fun w'=> ?_) ?_;rotate_left;(focus (go_simp;(try exact rfl);done));try go_simp)|(refine lxr HO (v:=?_) (fun w' hC'=> ?_) ?_;rotate_left;(focus (obtain ⟨c0,c1,c2,c3⟩:=hC';go_simp;(try exact rfl);done));try go_simp)|(refine lxo HO ?_;try go_simp)))
    (refine lxe HO (fun K hK=> ?_);go_simp;refine hK _ _ (.inl (by rfl)) ?_;clear hK K)
    refine wpL_nil ?_
    go_wp2_with fail
    go_meet
    have m34:Mod (fun b=> b=bl) w3 (((w3.setCell ⟨bl,0,none⟩ (.int .u64 v)).setCell ⟨bl,1,none⟩ (.int .u32 r)).setCell ⟨bl,2,none⟩ (.int .u32 k)):=(((Mod.refl (fun b=> b=bl) w3).setCell (p:=⟨bl,0,none⟩) (.inr rfl) _).setCell (p:=⟨bl,1,none⟩) (.inr rfl) _).setCell (p:=⟨bl,2,none⟩) (.inr rfl) _
    refine ⟨(S3.no m33).mod m34 (by rintro b rfl;exact bn), ?_, ?_⟩
    ·refine (((L3'.set (i:=0) (by omega) _).set (i:=1) (by omega) _).set (i:=2) (by omega) _).congr (fun i hi=> ?_)
     rcases (by omega:i=0∨i=1∨i=2) with rfl|rfl|rfl <;> rfl
    ·refine Mod.trans M3 (Mod.trans (m33.no (fun b=> b=bl)) m34 (fun _ _ h=> h)) ?_
     rintro b hb rfl
     omega
  case rest=>
  obtain ⟨S4,L4,M4⟩:=hcut
  have S3x:=S3
  clear t0 t1 t2 t3 t4 t5 t6 t7 x0 x1 x2 x3 x4 x5 x6 x7 x8 x9 q0 q1 k0 k1 k2 fk0 fk1 fk2 S3 L3 M3 lbl
  have lbl:=L4.lt
  have k0:=L4.cL 0 _ (by omega) rfl
  have k1:=L4.cL 1 _ (by omega) rfl
  have k2:=L4.cL 2 _ (by omega) rfl
  go_wp2_with fail
  refine (sEnter S4 (g:=gg) (c:=c) hgg hc 0 0 m v r k HFG.out hm0 hm1 hR (by omega) (by omega)).mono ?_;rintro e w5 ⟨rfl,m5,S5⟩
  have ob:ext ow' wc w5 (.q gg c) bl= .no:=by rw [ext_old lbl,bn]
  have L5:=L4.mod m5 (by rw [bn];simp)
  have y9:=S5.look.2.2.2.2.2.2.2.2.2
  have fx:=S5.cx.2.free 9
  have lx5:=S5.cx.2.lt
  dsimp only at y9
  clear k0 k1 k2
  go_upto_region 12 with fail
  refine wp_world (fun W=> SAt W (ext ow' wc w5 (.q gg c)) x B { s with loads:=upd1 s.loads c (s.loads c+t.weight),task:=some { t with ready:=true },qs:=upd2 f gg c (.o (mxI 0 v) (0+k) m v r k),work:=s.work+(d - dd:Nat)+1 }∧Row W bl 3 (fl [.int .u64 v, .int .u32 r, .int .u32 k])∧Mod (fun b=> ow b≠ .no) w W∧W.heap.size=w5.heap.size) ?_ ?_
  ·have xw:ext ow' wc w5 (.q gg c) x= .x:=S5.cx.1
   have xo:ow x= .x:=by
    have e1:=S3x.cx.1
    rw [←ho _ lx,e1]
   have m6:Mod (fun b=> b=x) w5 (w5.setCell ⟨x,9,none⟩ (.int .i64 (s.work+(d - dd:Nat)+1))):=(Mod.refl (fun b=> b=x) w5).setCell (p:=⟨x,9,none⟩) (.inr rfl) _
   refine ⟨?_, ?_, ?_,by simp⟩
   ·refine S5.set .x (m6.mono (by rintro b _ rfl;exact ⟨xw,by simp⟩)) ⟨xw, ?_⟩ ?_
    ·refine (S5.cx.2.set (i:=9) (by omega) _).congr (fun i hi=> ?_)
     rcases (by omega:i=0∨i=1∨i=2∨i=3∨i=4∨i=5∨i=6∨i=7∨i=8∨i=9) with rfl|rfl|rfl|rfl|rfl|rfl|rfl|rfl|rfl|rfl <;> rfl
    ·intro t' ht' hp
     cases t' with
     |x=> exact absurd rfl ht'
     |_=> exact hp
   ·exact L5.setOther (by rintro rfl;rw [ob] at xw;simp at xw) _
   ·refine Mod.trans (Mod.trans M4 m5 ?_) m6 ?_
    ·intro b hb e;show ow b≠ .no;rw [←ho b hb,e];simp
    ·rintro b hb rfl;rw [xo];simp
  intro V6 ⟨S6,L6,M6,z6⟩
  have zw:wc.heap.size≤w5.heap.size:=m5.size
  have zw2:w.heap.size≤wc.heap.size:=M4.size
  clear y9 fx lx5 S4 L4 S5 L5 S3x
  by_cases hg0:gg=0
  ·subst hg0
   have hd0:dd=0:=by cases dd with
    |zero=> rfl
    |succ n=> exact absurd hD.up'.1 (by omega)
   subst hd0
   go_wp2_with fail
   refine bodyPost_ret (v:= .tuple #[]) (by simp [results,Tryz.results354,go_sem]) rfl ⟨rfl,M6,ext ow' wc w5 (.q 0 c),fun b hb=> by rw [ext_old (by omega),ho b hb], ?_⟩
   have e1:s.work+((d - 0:Nat):Int)+1=s.work+(d+1):=by omega
   rw [e1] at S6
   rw [←HE.out]
   exact S6
  ·have g0:(0:Int) < gg:=by omega
   have g256:(gg:Int) < 256:=by have:=T.g2;omega
   have k3:((gg:Int)==0)=false:=by simp;omega
   obtain ⟨a0,a1,a2,a3⟩:=S6.ap (g:=gg) (c:=c) hgg hc
   have haz:=HZ.out gg
   dsimp only at a0 a1 a2 a3
   rw [haz] at a1 a2
   obtain ⟨t0,t1,t2,t3,t4,t5,t6,t7⟩:=S6.tp rfl
   obtain ⟨x0,x1,x2,x3,x4,x5,x6,x7,x8,x9⟩:=S6.look
   dsimp only at t2 x7
   rw [HC.out] at t2
   have f0:=L6.free 0
   have f1:=L6.free 1
   have f2:=L6.free 2
   have l6:=L6.lt
   have b0:=L6.cL 0 _ (by omega) rfl
   have b1:=L6.cL 1 _ (by omega) rfl
   have b2:=L6.cL 2 _ (by omega) rfl
   have HZ2:=Lib.hid haz
   clear haz
   go_upto_region 13 with fail
   (refine wp_region_tail 16 (by kernel_rfl) (by kernel_rfl) ?_;simp only [List.take_succ_cons,List.take_zero,List.drop_succ_cons,List.drop_zero];repeat still_step);refine wpStill_nil ?_
   go_wp2_with fail
   have m7:Mod (fun b=> b=bl) V6 ((((V6.setCell ⟨bl,0,none⟩ (.int .u64 0)).setCell ⟨bl,1,none⟩ (.int .u32 0)).setCell ⟨bl,2,none⟩ (.int .u32 (s.wt gg))).drew):=((((Mod.refl (fun b=> b=bl) V6).setCell (p:=⟨bl,0,none⟩) (.inr rfl) _).setCell (p:=⟨bl,1,none⟩) (.inr rfl) _).setCell (p:=⟨bl,2,none⟩) (.inr rfl) _).drew
   have S7:=S6.mod m7 (by rintro b rfl;exact ob)
   have L7:Row ((((V6.setCell ⟨bl,0,none⟩ (.int .u64 0)).setCell ⟨bl,1,none⟩ (.int .u32 0)).setCell ⟨bl,2,none⟩ (.int .u32 (s.wt gg))).drew) bl 3 (fl [.int .u64 0, .int .u32 0, .int .u32 (s.wt gg)]):=by
    refine Row.drew ((((L6.set (i:=0) (by omega) _).set (i:=1) (by omega) _).set (i:=2) (by omega) _).congr (fun i hi=> ?_))
    rcases (by omega:i=0∨i=1∨i=2) with rfl|rfl|rfl <;> rfl
   refine (sParent S7 (g:=gg) _ rfl hgg).mono ?_;rintro e w7 ⟨rfl,rfl⟩
   clear a0 a1 a2 a3 t0 t1 t2 t3 t4 t5 t6 t7 x0 x1 x2 x3 x4 x5 x6 x7 x8 x9 f0 f1 f2 b0 b1 b2
   go_wp2
   go_roundw
   case measure=>
    obtain ⟨n,rfl⟩:∃ n,dd=n+1:=by cases dd with
     |zero=> exact absurd hD.zero hg0
     |succ n=> exact ⟨n,rfl⟩
    obtain ⟨p0,p1,p2⟩:=hD.up'
    have p3:=(T.parOk gg p0 hgg).2
    simp only [RowKit.intOf]
    omega
   case rel=>
    obtain ⟨n,rfl⟩:∃ n,dd=n+1:=by cases dd with
     |zero=> exact absurd hD.zero hg0
     |succ n=> exact ⟨n,rfl⟩
    obtain ⟨p0,p1,p2⟩:=hD.up'
    have p3:=(T.parOk gg p0 hgg).2
    have wk:=T.wtOk gg hgg
    refine ⟨n,(s.par gg).toNat,65536+gg,0,0,s.wt gg,upd2 f gg c (.o (mxI 0 v) (0+k) m v r k),ext ow' wc w5 (.q gg c),congrArg (Value.int .i64) (by rw [IntKind.wrap_i64];omega), ?_,p2,by omega,by omega, ?_, ?_, ?_,by omega,by omega, ?_,L7,ob, ?_,fun b hb=> by rw [ext_old (by omega),ho b hb]⟩
    ·exact congrArg (Value.int .i64) (Int.toNat_of_nonneg p1).symm
    ·have:=HE.out
     simp only [entQ,HZ2.out] at this
     exact this
    ·intro g' hg'
     rw [upd2_other _ _ _ _ _ _ (by omega)]
     exact HF.out g' (by omega)
    ·exact ⟨wk.1,wk.2,by omega,by omega,by omega,by omega⟩
    ·have e1:s.work+((d - n:Nat):Int)=s.work+(d - (n+1):Nat)+1:=by omega
     rw [e1]
     exact S7
    ·refine Mod.trans M6 m7 ?_
     rintro b hb rfl
     omega
end Go.Q
namespace Go.Q
open Go.RowKit Go.Proofs
set_option maxRecDepth 100000 in
set_option maxHeartbeats 1000000 in
theorem spawn_do (w:World) (ow:Nat→Own) (x:Nat) (B:SB) (s:SSt) (id k tO ticks mask:Int) (g c d:Nat) (h:SAt w ow x B s) (ht:s.task=none) (hC:s.C=64) (hc:c < s.C) (hg:g < s.G) (T:Tree s.G s.par s.wt) (hd:Dep s.par g d)
  (hq:∀ g' c',s.qs g' c' = .e 0 0) (hcr:0≤s.cr) (haz:∀ g c,s.aside g c=(0,0)) (h0:1≤id) (h1:id < 65536) (hk0:1≤k) (hk1:k≤65536) (hm1:1≤mask) (hm2:mask < 18446744073709551616) (hm3:bits BinOp.and IntKind.u64 (mask / 2 ^ c) 1=1) (hd4:d≤4) (hl:∀ c,s.loads c=0) (hwk:s.work=0):
  Calls Tryz.prog 352 #[opv 1 c id g k tO ticks mask,ptr x] w fun e w' => e= .returned (.tuple #[.int .i64 0, .int .i64 0])∧Mod (fun b=> ow b≠ .no) w w' ∧∃ ow' B',(∀ b,b < w.heap.size→ow' b=ow b)∧
   SAt w' ow' x B' { s with loads:=upd1 s.loads c k,work:=d+1,task:=some { id:=id,group:=g,weight:=k,cpu:=c,mask:=mask,ready:=true,v:=0,r:=0,k:=k },qs:=entQ s.par s.wt s.aside c d g id 0 0 k s.qs }:=by
 obtain ⟨x0,x1,x2,x3,x4,x5,x6,x7,x8,x9⟩:=h.look
 have lx:=h.cx.2.lt
 have i0:(0:Int)≤c:=by omega
 have i1:(0:Int)≤g:=by omega
 have i2:(g:Int) < s.G:=by omega
 have i3:(c:Int) < s.C:=by omega
 have d1:decide ((g:Int) < 0)=false:=by simp
 have d2:decide (s.G≤g)=false:=by simp;omega
 have d3:decide (k < 1)=false:=by simp;omega
 have d4:decide (65536 < k)=false:=by simp;omega
 have hm0:(mask==0)=false:=by simp;omega
 have k6:(bits BinOp.and IntKind.u64 (mask / 2 ^ c) 1==0)=false:=by rw [hm3];rfl
 have k5:(mask.fdiv (2 ^ min (IntKind.i64.wrap 63).toNat 64) / 2 !=0)=false:=by
  rw [show (2:Int) ^ min (IntKind.i64.wrap 63).toNat 64=9223372036854775808 from by decide,Int.fdiv_eq_ediv_of_nonneg _ (by decide)]
  simp
  omega
 have i4:(c:Int) < 64:=by omega
 have i5:c < 64:=by omega
 have HC:=Lib.hid (And.intro hC (And.intro (hl c) hwk))
 clear hC hl hwk
 go_enter Tryz.func352,Tryz.ntmps352
 go_wp2_with fail
 refine (named_yes id h0 h1 _).mono ?_;rintro e w1 ⟨rfl,rfl⟩
 go_upto_region 3 with fail
 go_quiet (fail)
 have S1:=(h.no ((Mod.refl No w).alloc (.cells #[.int .u8 1, .int .i64 c, .int .i64 id, .int .i64 g, .int .i64 k, .int .i64 tO, .int .i64 ticks, .int .u64 mask] 238))).no ((Mod.refl No _).drewN nq)
 have O1:Row ((w.alloc (.cells #[.int .u8 1, .int .i64 c, .int .i64 id, .int .i64 g, .int .i64 k, .int .i64 tO, .int .i64 ticks, .int .u64 mask] 238)).drewN nq) w.heap.size 8 (fl [.int .u8 1, .int .i64 c, .int .i64 id, .int .i64 g, .int .i64 k, .int .i64 tO, .int .i64 ticks, .int .u64 mask]):=Row.drewN (row_newL w [_,_,_,_,_,_,_,_] _) nq
 have lO:=O1.lt
 go_upto_region 5 with fail
 have S1' :=S1.no (Mod.refl No _).drew
 have O1' :=Row.drew O1
 refine wp_region_chain (fun w' => w'.cell? ⟨x,3,none⟩=some (slc B.cb 64 B.ccap)∧w'.cell? ⟨w.heap.size,4,none⟩=some (.int .i64 k)∧w'.cell? ⟨w.heap.size,7,none⟩=some (.int .u64 mask)) [4] [] [] (rds [0,1,2,3] (.ef 4 (rds [5,6,7,8,9,10,11,12,13,14,15,16,17,18,19,20,21,22,23,24,25,26,27,28] .nil))) (by kernel_rfl) (by kernel_rfl) ⟨by have:=S1'.look.2.2.2.1;rw [HC.out.1] at this;exact this,O1.cL 4 _ (by omega) rfl,O1.cL 7 _ (by omega) rfl⟩ ?_
 intro O hO
 have HO:=Lib.hid hO
 clear hO
 simp only [rds]
 (repeat (first|(refine lxp HO (v:=?_) (fun w'=> ?_) ?_;rotate_left;(focus (go_simp;(try exact rfl);done));try go_simp)|(refine lxr HO (v:=?_) (fun w' hC'=> ?_) ?_;rotate_left;(focus (obtain ⟨c1,c2,c3⟩:=hC';go_simp;(try exact rfl);done));try go_simp)|(refine lxo HO ?_;try go_simp)))
 refine lxe HO (fun Kx hKx=> ?_)
 go_simp
 refine (sweighs_yes k hk0 hk1 _).mono ?_;rintro e w3 ⟨rfl,rfl⟩
 refine hKx _ _ (.inr ⟨by have:=S1'.look.2.2.2.1;rw [HC.out.1] at this;exact this,O1'.cL 4 _ (by omega) rfl,O1'.cL 7 _ (by omega) rfl⟩) ?_
 clear hKx Kx
 (repeat (first|(refine lxp HO (v:=?_) (fun w'=> ?_) ?_;rotate_left;(focus (go_simp;(try exact rfl);done));try go_simp)|(refine lxr HO (v:=?_) (fun w' hC'=> ?_) ?_;rotate_left;(focus (obtain ⟨c1,c2,c3⟩:=hC';go_simp;(try exact rfl);done));try go_simp)|(refine lxo HO ?_;try go_simp)))
 refine wpL_nil ?_
 have S2:=S1.no (Mod.refl No _).drew
 have O2:=O1.drew
 go_upto_region 7 with fail
 have hlk:(Instr.lookup 127 (.map (some B.tb)) (.int .i64 id) false).run Tryz.prog ((w.alloc (.cells #[.int .u8 1, .int .i64 c, .int .i64 id, .int .i64 g, .int .i64 k, .int .i64 tO, .int .i64 ticks, .int .u64 mask] 238)).drewN (nq+2))= .ok (.pointer none) ((w.alloc (.cells #[.int .u8 1, .int .i64 c, .int .i64 id, .int .i64 g, .int .i64 k, .int .i64 tO, .int .i64 ticks, .int .u64 mask] 238)).drewN (nq+2)):=by
  have hT:=(h.no (((Mod.refl No w).alloc (.cells #[.int .u8 1, .int .i64 c, .int .i64 id, .int .i64 g, .int .i64 k, .int .i64 tO, .int .i64 ticks, .int .u64 mask] 238)).drewN (nq+2))).1 .tb
  simp only [Part,tmapv,ht] at hT
  refine (run_lookup (P:=Tryz.prog) Tryz.underlying127 Tryz.underlying3 (Tryz.zeroValue168 _) hT.2 id).trans ?_
  simp [lk]
 refine wp_region_chain (fun w' => w'.cell? ⟨x,5,none⟩=some (.map (some B.tb))∧w'.cell? ⟨w.heap.size,2,none⟩=some (.int .i64 id)∧(Instr.lookup 127 (.map (some B.tb)) (.int .i64 id) false).run Tryz.prog w' = .ok (.pointer none) w') [] [] [] (rds [0,1,2,3,4,5,6,7,8,9,10] .nil) (by kernel_rfl) (by kernel_rfl) ⟨(S2.no (Mod.refl No _).drew).look.2.2.2.2.2.1,O2.drew.cL 2 _ (by omega) rfl,hlk⟩ ?_
 intro O hO
 have HO:=Lib.hid hO
 clear hO
 simp only [rds]
 (repeat (first|(refine lxp HO (v:=?_) (fun w'=> ?_) ?_;rotate_left;(focus (go_simp;(try exact rfl);done));try go_simp)|(refine lxr HO (v:=?_) (fun w' hC'=> ?_) ?_;rotate_left;(focus (obtain ⟨c1,c2,c3⟩:=hC';go_simp;(try exact rfl);done));try go_simp)|(refine lxo HO ?_;try go_simp)))
 refine wpL_nil ?_
 go_upto_region 11 with fail
 refine wp_world (fun V=> SAt V ow x B s∧Row V w.heap.size 8 (fl [.int .u8 1, .int .i64 c, .int .i64 id, .int .i64 g, .int .i64 k, .int .i64 tO, .int .i64 ticks, .int .u64 mask])∧Mod No w V) ?_ ?_
 ·have m:=((Mod.refl No w).alloc (.cells #[.int .u8 1, .int .i64 c, .int .i64 id, .int .i64 g, .int .i64 k, .int .i64 tO, .int .i64 ticks, .int .u64 mask] 238)).drewN
  exact ⟨h.no (m _),Row.drewN (row_newL w [_,_,_,_,_,_,_,_] _) _,m _⟩
 clear S1 S1' O1 O1' S2 O2 hlk x5 lO
 intro V ⟨S1,O1,m1⟩
 have lO:=O1.lt
 have mS:∀ w',Mod No V w' →w'.cell? ⟨x,6,none⟩=some (slc B.qo s.G B.qcap)∧w'.cell? ⟨B.qo,g,none⟩=some (slc (B.qi g) s.C s.C)∧w'.cell? ⟨B.qi g,c,none⟩=some (ptr (B.q g c))∧w'.cell? ⟨w.heap.size,1,none⟩=some (.int .i64 c)∧w'.cell? ⟨w.heap.size,3,none⟩=some (.int .i64 g)∧w'.cell? ⟨w.heap.size,4,none⟩=some (.int .i64 k):=fun w' hm=> by
  have S2:=S1.no hm
  have O2:=O1.mod hm (fun h=> h)
  exact ⟨S2.look.2.2.2.2.2.2.1,(S2.qp hg hc).1,(S2.qp hg hc).2,O2.cL 1 _ (by omega) rfl,O2.cL 3 _ (by omega) rfl,O2.cL 4 _ (by omega) rfl⟩
 go_cut [6] (fun s6 wx=> ∃ nb,s6=ptr nb∧V.heap.size≤nb∧Row wx nb 3 (fl [.int .u64 0, .int .u32 0, .int .u32 k])∧Mod No V wx)
 case first=>
  refine wp_region_chain (fun w' => w'.cell? ⟨x,6,none⟩=some (slc B.qo s.G B.qcap)∧w'.cell? ⟨B.qo,g,none⟩=some (slc (B.qi g) s.C s.C)∧w'.cell? ⟨B.qi g,c,none⟩=some (ptr (B.q g c))∧w'.cell? ⟨w.heap.size,1,none⟩=some (.int .i64 c)∧w'.cell? ⟨w.heap.size,3,none⟩=some (.int .i64 g)∧w'.cell? ⟨w.heap.size,4,none⟩=some (.int .i64 k)) [16,21,25,26] [22,23,24,27] [26] (rds [0,1,2,3,4,5,6,7,8,9,10,11,12,13,14,15,17,18,19,20] (.ef2 16 (.ef2 21 (rds [22,23,24] (.ef 25 (.ef 26 (rds [27] .nil)))) 25 (.ef 21 (rds [22,23,24] (.ef 26 (rds [27] .nil))))) 25 (.ef 16 (.ef 21 (rds [22,23,24] (.ef 26 (rds [27] .nil))))))) (by kernel_rfl) (by kernel_rfl) (mS _ (Mod.refl No V).drew) ?_
  intro O hO
  have HO:=Lib.hid hO
  clear hO
  simp only [rds]
  (repeat (first|(refine lxp HO (v:=?_) (fun w'=> ?_) ?_;rotate_left;(focus (go_simp;(try exact rfl);done));try go_simp)|(refine lxr HO (v:=?_) (fun w' hC'=> ?_) ?_;rotate_left;(focus (obtain ⟨c1,c2,c3,c4,c5,c6⟩:=hC';go_simp;(try exact rfl);done));try go_simp)|(refine lxo HO ?_;try go_simp)))
  refine wpL_eff2 ?o1 ?o2
  case o1=>
   refine lxe HO (fun Kx hKx=> ?_)
   go_simp
   refine (sFloor (S1.no (Mod.refl No V).drew) hg hc).mono ?_;rintro e w4 ⟨rfl,rfl⟩
   rw [show (s.qs g c).fl=0 from by rw [hq];rfl]
   refine hKx _ _ (.inr (mS _ (Mod.refl No V).drew)) ?_
   clear hKx Kx
   (repeat (first|(refine lxp HO (v:=?_) (fun w'=> ?_) ?_;rotate_left;(focus (go_simp;(try exact rfl);done));try go_simp)|(refine lxr HO (v:=?_) (fun w' hC'=> ?_) ?_;rotate_left;(focus (obtain ⟨c1,c2,c3,c4,c5,c6⟩:=hC';go_simp;(try exact rfl);done));try go_simp)|(refine lxo HO ?_;try go_simp)))
   refine wpL_eff2 ?o3 ?o4
   case o3=>
    refine lxe HO (fun Kx hKx=> ?_)
    go_simp
    refine (placeNew_ok k hk0 hk1 _).mono ?_;rintro e w3 ⟨rfl,hb3⟩
    have m3:Mod No V w3:=Mod.trans (Mod.refl No V).drew (Mod.of_below hb3 No) (fun _ _ h=> h)
    refine hKx _ _ (.inr (mS _ m3)) ?_
    clear hKx Kx
    (repeat (first|(refine lxp HO (v:=?_) (fun w'=> ?_) ?_;rotate_left;(focus (go_simp;(try exact rfl);done));try go_simp)|(refine lxr HO (v:=?_) (fun w' hC'=> ?_) ?_;rotate_left;(focus (obtain ⟨c1,c2,c3,c4,c5,c6⟩:=hC';go_simp;(try exact rfl);done));try go_simp)|(refine lxo HO ?_;try go_simp)))
    (refine lxe HO (fun K hK=> ?_);go_simp;refine hK _ _ ?_ ?_;all_goals clear hK K)
    ·exact .inr (mS _ (m3.alloc _))
    (refine lxe HO (fun K hK=> ?_);go_simp;refine hK _ _ (.inl (by rfl)) ?_;clear hK K)
    (repeat (first|(refine lxp HO (v:=?_) (fun w'=> ?_) ?_;rotate_left;(focus (go_simp;(try exact rfl);done));try go_simp)|(refine lxr HO (v:=?_) (fun w' hC'=> ?_) ?_;rotate_left;(focus (obtain ⟨c1,c2,c3,c4,c5,c6⟩:=hC';go_simp;(try exact rfl);done));try go_simp)|(refine lxo HO ?_;try go_simp)))
    refine wpL_nil ?_
    go_wp2_with fail
    go_meet
    exact ⟨_,rfl,by have:=m3.size;omega,row_newL w3 [_,_,_] _,m3.alloc _⟩
   case o4=>
    (refine lxe HO (fun K hK=> ?_);go_simp;refine hK _ _ ?_ ?_;all_goals clear hK K)
    ·exact .inr (mS _ ((Mod.refl No V).drew.alloc _))
    refine lxe HO (fun Kx hKx=> ?_)
    go_simp
    refine (placeNew_ok k hk0 hk1 _).mono ?_;rintro e w3 ⟨rfl,hb3⟩
    have m3:Mod No V w3:=Mod.trans ((Mod.refl No V).drew.alloc _) (Mod.of_below hb3 No) (fun _ _ h=> h)
    have N3:Row w3 V.heap.size 3 (fl [.int .u64 0, .int .u32 0, .int .u32 0]):=Row.below (row_newL' V.drew V.heap.size [_,_,_] _ (by simp)) hb3 (by simp)
    have n0:=N3.cL 0 _ (by omega) rfl
    have n1:=N3.cL 1 _ (by omega) rfl
    have n2:=N3.cL 2 _ (by omega) rfl
    have k0:=N3.free 0
    have k1:=N3.free 1
    have k2:=N3.free 2
    have ln3:=N3.lt
    refine hKx _ _ (.inr (mS _ m3)) ?_
    clear hKx Kx
    (repeat (first|(refine lxp HO (v:=?_) (fun w'=> ?_) ?_;rotate_left;(focus (go_simp;(try exact rfl);done));try go_simp)|(refine lxr HO (v:=?_) (fun w' hC'=> ?_) ?_;rotate_left;(focus (obtain ⟨c1,c2,c3,c4,c5,c6⟩:=hC';go_simp;(try exact rfl);done));try go_simp)|(refine lxo HO ?_;try go_simp)))
    (refine lxe HO (fun K hK=> ?_);go_simp;refine hK _ _ (.inl (by rfl)) ?_;clear hK K)
    (repeat (first|(refine lxp HO (v:=?_) (fun w'=> ?_) ?_;rotate_left;(focus (go_simp;(try exact rfl);done));try go_simp)|(refine lxr HO (v:=?_) (fun w' hC'=> ?_) ?_;rotate_left;(focus (obtain ⟨c1,c2,c3,c4,c5,c6⟩:=hC';go_simp;(try exact rfl);done));try go_simp)|(refine lxo HO ?_;try go_simp)))
    refine wpL_nil ?_
    go_wp2_with fail
    go_meet
    exact ⟨_,rfl,Nat.le_refl _,(((N3.set (i:=0) (by omega) _).set (i:=1) (by omega) _).set (i:=2) (by omega) _).congr (fun i hi=> by rcases (by omega:i=0∨i=1∨i=2) with rfl|rfl|rfl <;> rfl),((m3.setCell (p:=⟨V.heap.size,0,none⟩) (.inl (Nat.le_refl _)) _).setCell (p:=⟨V.heap.size,1,none⟩) (.inl (Nat.le_refl _)) _).setCell (p:=⟨V.heap.size,2,none⟩) (.inl (Nat.le_refl _)) _⟩
  case o2=>
   (refine lxe HO (fun K hK=> ?_);go_simp;refine hK _ _ ?_ ?_;all_goals clear hK K)
   ·exact .inr (mS _ ((Mod.refl No V).drew.alloc _))
   refine lxe HO (fun Kx hKx=> ?_)
   go_simp
   refine (sFloor (S1.no ((Mod.refl No V).drew.alloc _)) hg hc).mono ?_;rintro e w4 ⟨rfl,rfl⟩
   rw [show (s.qs g c).fl=0 from by rw [hq];rfl]
   refine hKx _ _ (.inr (mS _ ((Mod.refl No V).drew.alloc _))) ?_
   clear hKx Kx
   (repeat (first|(refine lxp HO (v:=?_) (fun w'=> ?_) ?_;rotate_left;(focus (go_simp;(try exact rfl);done));try go_simp)|(refine lxr HO (v:=?_) (fun w' hC'=> ?_) ?_;rotate_left;(focus (obtain ⟨c1,c2,c3,c4,c5,c6⟩:=hC';go_simp;(try exact rfl);done));try go_simp)|(refine lxo HO ?_;try go_simp)))
   refine lxe HO (fun Kx hKx=> ?_)
   go_simp
   refine (placeNew_ok k hk0 hk1 _).mono ?_;rintro e w3 ⟨rfl,hb3⟩
   have m3:Mod No V w3:=Mod.trans ((Mod.refl No V).drew.alloc _) (Mod.of_below hb3 No) (fun _ _ h=> h)
   have N3:Row w3 V.heap.size 3 (fl [.int .u64 0, .int .u32 0, .int .u32 0]):=Row.below (row_newL' V.drew V.heap.size [_,_,_] _ (by simp)) hb3 (by simp)
   have n0:=N3.cL 0 _ (by omega) rfl
   have n1:=N3.cL 1 _ (by omega) rfl
   have n2:=N3.cL 2 _ (by omega) rfl
   have k0:=N3.free 0
   have k1:=N3.free 1
   have k2:=N3.free 2
   have ln3:=N3.lt
   refine hKx _ _ (.inr (mS _ m3)) ?_
   clear hKx Kx
   (repeat (first|(refine lxp HO (v:=?_) (fun w'=> ?_) ?_;rotate_left;(focus (go_simp;(try exact rfl);done));try go_simp)|(refine lxr HO (v:=?_) (fun w' hC'=> ?_) ?_;rotate_left;(focus (obtain ⟨c1,c2,c3,c4,c5,c6⟩:=hC';go_simp;(try exact rfl);done));try go_simp)|(refine lxo HO ?_;try go_simp)))
   (refine lxe HO (fun K hK=> ?_);go_simp;refine hK _ _ (.inl (by rfl)) ?_;clear hK K)
   (repeat (first|(refine lxp HO (v:=?_) (fun w'=> ?_) ?_;rotate_left;(focus (go_simp;(try exact rfl);done));try go_simp)|(refine lxr HO (v:=?_) (fun w' hC'=> ?_) ?_;rotate_left;(focus (obtain ⟨c1,c2,c3,c4,c5,c6⟩:=hC';go_simp;(try exact rfl);done));try go_simp)|(refine lxo HO ?_;try go_simp)))
   refine wpL_nil ?_
   go_wp2_with fail
   go_meet
   exact ⟨_,rfl,Nat.le_refl _,(((N3.set (i:=0) (by omega) _).set (i:=1) (by omega) _).set (i:=2) (by omega) _).congr (fun i hi=> by rcases (by omega:i=0∨i=1∨i=2) with rfl|rfl|rfl <;> rfl),((m3.setCell (p:=⟨V.heap.size,0,none⟩) (.inl (Nat.le_refl _)) _).setCell (p:=⟨V.heap.size,1,none⟩) (.inl (Nat.le_refl _)) _).setCell (p:=⟨V.heap.size,2,none⟩) (.inl (Nat.le_refl _)) _⟩
 case rest=>
 obtain ⟨nb,rfl,hnb,N1,mx⟩:=hcut
 have S3:=S1.no mx
 have O3:=O1.mod mx (fun h=> h)
 clear mS
 have lO3:=O3.lt
 have lN:=N1.lt
 have n0:=N1.cL 0 _ (by omega) rfl
 have n1:=N1.cL 1 _ (by omega) rfl
 have n2:=N1.cL 2 _ (by omega) rfl
 have o1:=O3.cL 1 _ (by omega) rfl
 have o2:=O3.cL 2 _ (by omega) rfl
 have o3:=O3.cL 3 _ (by omega) rfl
 have o4:=O3.cL 4 _ (by omega) rfl
 have o7:=O3.cL 7 _ (by omega) rfl
 have x5:=S3.look.2.2.2.2.2.1
 have lx3:=S3.cx.2.lt
 clear x0 x1 x2 x3 x4 x6 x7 x8 x9
 go_upto_region 13 with fail
 (refine wp_region_tail 9 (by kernel_rfl) (by kernel_rfl) ?_;simp only [List.take_succ_cons,List.take_zero,List.drop_succ_cons,List.drop_zero];repeat still_step);refine wpStill_nil ?_
 have ma:Mod No wc ((wc.alloc (.cells #[.int .i64 g, .int .i64 k, .int .i64 c, .int .u64 mask, .bool false, .int .u64 0, .int .u32 0, .int .u32 k] 286)).drew):=((Mod.refl No wc).alloc _).drew
 have him:=(S3.no ma).1 .tb
 simp only [Part,tmapv,ht] at him
 refine wpList_mapUpdate rfl _ _ _ _ rfl _ _ Tryz.underlying127 Tryz.underlying3 (q:= .i64) (b:=B.tb) (l:= []) him.2 id (ptr wc.heap.size) rfl rfl rfl ?_
 intro w1 hp hi
 have hK:Row w1 wc.heap.size 8 (trow { id:=id,group:=g,weight:=k,cpu:=c,mask:=mask,ready:=false,v:=0,r:=0,k:=k }):=by
  refine Row.mod (Row.drew (row_newL wc [_,_,_,_,_,_,_,_] _)) hp.mod ?_
  have:=(S3.1 .tb).2.lt
  show ¬wc.heap.size=B.tb
  omega
 have S4:=S3.addTask { id:=id,group:=g,weight:=k,cpu:=c,mask:=mask,ready:=false,v:=0,r:=0,k:=k } wc.heap.size (Mod.trans (ma.no (One B.tb)) hp.mod (fun _ _ h=> h)) (Nat.le_refl _) hK hi
 have O4:Row w1 w.heap.size 8 (fl [.int .u8 1, .int .i64 c, .int .i64 id, .int .i64 g, .int .i64 k, .int .i64 tO, .int .i64 ticks, .int .u64 mask]):=(O3.mod ma (fun h=> h)).mod hp.mod (by
  have e1:=(h.1 .tb).2.lt
  show ¬w.heap.size=B.tb
  omega)
 have o2' :=O4.cL 2 _ (by have:=O4.lt;omega) rfl
 have lO4:=O4.lt
 have m4:Mod (fun b=> ow b≠ .no) w w1:=Mod.trans (Mod.trans (Mod.trans m1 mx (fun _ _ h=> h)) ma (fun _ _ h=> h)|>.no _) (hp.mod.mono (fun b _ (e:b=B.tb)=> by show ow b≠ .no;rw [e,(h.1 .tb).1];simp)) (fun _ _ h=> h)
 have hw0:w.heap.size≤wc.heap.size:=by have:=m1.size;have:=mx.size;omega
 clear n0 n1 n2 o1 o2 o3 o4 o7 x5
 go_wp2_with fail
 refine (enter_ok w1 _ x _ _ { id:=id,group:=g,weight:=k,cpu:=c,mask:=mask,ready:=false,v:=0,r:=0,k:=k } id c g d S4 rfl hc rfl hg rfl T hd (fun g' _=> hq g' c) hcr (show REnt 0 0 k from ⟨hk0,hk1,by omega,by omega,by omega,by omega⟩) (fun g=> haz g c) (by omega) h1 (by show 0≤s.loads c;rw [HC.out.2.1];omega) (by show s.loads c≤1000000;rw [HC.out.2.1];omega) (by show 0≤k;omega) (by show k≤1000000;omega) (by show 0≤s.work;rw [HC.out.2.2];omega) (by show s.work≤1000000;rw [HC.out.2.2];omega) hd4).mono ?_
 rintro e w5 ⟨rfl,m5,ow5,ho5,S5⟩
 go_wp2
 go_ret2
 refine ⟨rfl, ?_,ow5, { B with tk:=wc.heap.size }, ?_, ?_⟩
 ·refine Mod.trans m4 m5 (fun b hb e=> ?_)
  have:b≠wc.heap.size:=by omega
  simpa only [if_neg this] using e
 ·intro b hb
  rw [ho5 b (by have:=m4.size;omega),if_neg (by omega)]
 ·have e1:s.work+((d:Int)+1)=d+1:=by rw [HC.out.2.2];omega
  have e2:s.loads c+k=k:=by rw [HC.out.2.1];omega
  rw [e1,e2] at S5
  exact S5
end Go.Q
