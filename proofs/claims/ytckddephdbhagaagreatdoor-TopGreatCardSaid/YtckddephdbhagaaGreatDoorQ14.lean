/- A part of the proof that TopGreat answers true: what some of the functions on its road compute. -/
import Derived.Shelf.SlIterI.Nil
import Derived.Shelf.SortM.Plain
import Derived.Shelf.SortM.SortNone
import Derived.Ground.GgzProg
import Derived.Ground.SlgmProg
import Derived.Test.YtckddephdbhagaaGreatDoorQ0
import Derived.Test.YtckddephdbhagaaGreatDoorQ1
import Derived.Test.YtckddephdbhagaaGreatDoorQ3
import Derived.Test.YtckddephdbhagaaGreatDoorQ5
import Derived.Test.YtckddephdbhagaaGreatDoorQ13
set_option linter.unusedVariables false
set_option linter.unusedSimpArgs false
namespace Go.Q
open Go.RowKit Go.Proofs
section
variable (A:ASt) (d:Nat) (t:TK) (g0 c0:Nat)
def lcm_ (x:Nat):Option (Int×Int):=chn A.par A.wt d g0 t.id t.weight x
def lvr (m:Int):Int×Int:=if m < 65536 then (t.v,t.r) else ((A.spots (m - 65536).toNat c0).1,(A.spots (m - 65536).toNat c0).2.1)
def lqf (g c:Nat):QSt:=if c=c0 then match lcm_ A d t g0 g with|some (m,k)=> .o (mxI 0 (lvr A t c0 m).1) (0+k) m (lvr A t c0 m).1 (lvr A t c0 m).2 k|none=> .e 0 0 else .e 0 0
def lq (g c:Nat):QSt:=(lqf A d t g0 c0 g c).raise (A.spots g c).2.2
abbrev Dn (K c g' c' :Nat):Prop:=K≤g' ∨(g' +1=K∧c' < c)
abbrev lst (loads:Nat→Int) (K c:Nat):SSt:=⟨A.C,A.G,A.cr,A.par,A.wt,A.clocks,A.current,loads,0,some ⟨t.id,t.group,t.weight,t.cpu,t.mask,t.ready,t.v,t.r,t.weight⟩,
 fun g' c' => if Dn K c g' c' then lq A d t g0 c0 g' c' else .e 0 0,fun g' c' => if Dn K c g' c' then ((A.spots g' c').1,(A.spots g' c').2.1) else (0,0)⟩
def lpr (K c:Nat) (m:Int):Prop:=m < 65536∨∃ h:Nat,m=65536+(h:Int)∧Dn K c h c0
structure MInv (w:World) (z:Nat) (ow:Nat→Own) (mb:Nat) (M:K2→Option Value) (K c:Nat):Prop where
 a:∀ p v,M p=some v→p.2.val=c0∧∃ m k,lcm_ A d t g0 p.1.val=some (m,k)∧lpr c0 K c m
 b:∀ p m k,p.2.val=c0→lcm_ A d t g0 p.1.val=some (m,k)→lpr c0 K c m→
  ∃ b cap,M p=some (slc b 1 cap)∧Row w b 4 (fl [.int .i64 m, .int .u64 (lvr A t c0 m).1, .int .u32 (lvr A t c0 m).2, .int .u32 k])∧ow b= .no∧b≠mb∧z≤b
end
section
variable {A:ASt} {d:Nat} {t:TK} {g0 c0:Nat} {w w' :World} {z:Nat} {ow ow' :Nat→Own} {mb:Nat} {M:K2→Option Value} {K c g x:Nat} {B:SB} {S:Nat→Prop}
theorem MInv.mod (h:MInv A d t g0 c0 w z ow mb M K c) (hm:Mod S w w') (hs:∀ b,S b→b=mb∨ow b≠ .no) (ho:∀ b,b < w.heap.size→ow' b=ow b):MInv A d t g0 c0 w' z ow' mb M K c where
 a:=h.a
 b:=fun p m k h1 h2 h3=> by
  obtain ⟨b,cap,e1,e2,e3,e4,e5⟩:=h.b p m k h1 h2 h3
  exact ⟨b,cap,e1,e2.mod hm (fun hh=> (hs b hh).elim (fun e=> e4 e) (fun e=> e e3)),by rw [ho _ e2.lt];exact e3,e4,e5⟩
variable (H:ROk A d t g0 c0)
include H
theorem lpar:∀ g,0 < g→g < A.G→0≤A.par g∧A.par g < g:=fun g h1 h2=> H.T.parOk g h1 h2
theorem ldep:Dep A.par g0 d:=by
 have:=(H.one.ok t H.ht).2.2.2.1
 rwa [show t.group.toNat=g0 from by have:=H.htg;omega] at this
theorem lid:1≤t.id∧t.id < 65536:=(H.one.ok t H.ht).2.2.2.2
theorem lcm_mem {m k:Int} (h:lcm_ A d t g0 x=some (m,k)):(x=g0∧m=t.id∧k=t.weight)∨(x < g0∧∃ h,x < h∧h≤g0∧h < A.G∧m=65536+(h:Int)∧k=A.wt h∧A.par h=x∧∃ m2 k2,lcm_ A d t g0 h=some (m2,k2)):=by
 rcases chn_mem (lpar H) d g0 t.id t.weight x m k H.hg0 (ldep H) h with e|⟨e1,h',e2,e3,e4,e5,e6,e7⟩
 ·exact .inl e
 ·have:=H.hg0
  have:=lpar H h' e2 (by omega)
  exact .inr ⟨e1,h',by omega,e3,by omega,e4,e5,e6,e7⟩
theorem lcm_rent {m k:Int} (h:lcm_ A d t g0 x=some (m,k)):REnt (lvr A t c0 m).1 (lvr A t c0 m).2 k∧0≤m∧m < 65792:=by
 have hid:=lid H
 rcases lcm_mem H h with ⟨e1,rfl,rfl⟩|⟨e1,h',e2,e3,e4,rfl,rfl,_⟩
 ·unfold lvr
  rw [if_pos hid.2]
  exact ⟨H.ent,by omega,by omega⟩
 ·unfold lvr
  have hG:=H.T.g2
  rw [if_neg (by omega),show (65536+(h' :Int) - 65536).toNat=h' from by omega]
  exact ⟨H.sp h' c0 e4 H.hc0,by omega,by omega⟩
theorem MInv.here (I:MInv A d t g0 c0 w z ow mb M (g+1) c) {m k:Int} (p:K2) (hp1:p.1.val=g) (hp2:p.2.val=c0) (h:lcm_ A d t g0 g=some (m,k)):
  ∃ b cap,M p=some (slc b 1 cap)∧Row w b 4 (fl [.int .i64 m, .int .u64 (lvr A t c0 m).1, .int .u32 (lvr A t c0 m).2, .int .u32 k])∧ow b= .no∧b≠mb∧z≤b:=by
 refine I.b p m k hp2 (by rw [hp1];exact h) ?_
 rcases lcm_mem H h with ⟨e1,rfl,rfl⟩|⟨e1,h',e2,e3,e4,rfl,rfl,_⟩
 ·exact .inl (lid H).2
 ·exact .inr ⟨h',rfl, .inl (by omega)⟩
omit H in
theorem MInv.nohere (I:MInv A d t g0 c0 w z ow mb M K c) (p:K2) (h:p.2.val≠c0∨lcm_ A d t g0 p.1.val=none):M p=none:=by
 cases hM:M p with
 |none=> rfl
 |some v=>
  obtain ⟨e1,m,k,e2,_⟩:=I.a p v hM
  rcases h with h|h
  ·exact absurd e1 h
  ·rw [h] at e2;cases e2
theorem lfill {loads:Nat→Int} (hS:SAt w ow x B (lst A d t g0 c0 loads (g+1) c)) (I:MInv A d t g0 c0 w z ow mb M (g+1) c) (hg:g < A.G) (hc:c < A.C) (p:K2) (hp1:p.1.val=g) (hp2:p.2.val=c):
  Calls Tryz.prog 185 #[ptr (B.q g c),(M p).getD (.slice none 0 0)] w fun e w' => e= .returned (.tuple #[])∧Mod (fun b=> ow b= .q g c) w w' ∧∃ ow',(∀ b,b < w.heap.size→ow' b=ow b)∧
   SAt w' ow' x B { lst A d t g0 c0 loads (g+1) c with qs:=upd2 (lst A d t g0 c0 loads (g+1) c).qs g c (lqf A d t g0 c0 g c) }:=by
 have hz:(lst A d t g0 c0 loads (g+1) c).qs g c= .e 0 0:=if_neg (by unfold Dn;omega)
 by_cases h1:c=c0∧∃ m k,lcm_ A d t g0 g=some (m,k)
 ·obtain ⟨rfl,m,k,h2⟩:=h1
  obtain ⟨b,cap,e1,e2,e3,e4,e5⟩:=I.here H p hp1 hp2 h2
  obtain ⟨r1,r2,r3⟩:=lcm_rent H h2
  rw [e1]
  have e:lqf A d t g0 c g c= .o (mxI 0 (lvr A t c m).1) (0+k) m (lvr A t c m).1 (lvr A t c m).2 k:=by
   unfold lqf
   rw [if_pos rfl,h2]
  rw [e]
  exact fill_one hS hg hc b cap m _ _ k hz r2 r3 r1 e2 e3
 ·have h2:c≠c0∨lcm_ A d t g0 g=none:=by
   by_cases hc0:c=c0
   ·right
    cases hl:lcm_ A d t g0 g with
    |none=> rfl
    |some mk=> exact absurd ⟨hc0,mk.1,mk.2,hl⟩ h1
   ·exact .inl hc0
  rw [I.nohere p (by rw [hp1,hp2];exact h2)]
  have e:lqf A d t g0 c0 g c= .e 0 0:=by
   unfold lqf
   rcases h2 with h2|h2
   ·rw [if_neg h2]
   ·rw [h2];split <;> rfl
  rw [e]
  refine (fill_none _ w).mono ?_
  rintro e w' ⟨rfl,hb⟩
  have hm:=Mod.of_below hb No
  refine ⟨rfl,hm.no _,ow,fun _ _=> rfl, ?_⟩
  have:=(hS.no hm).congr (upd2 (lst A d t g0 c0 loads (g+1) c).qs g c (.e 0 0)) (lst A d t g0 c0 loads (g+1) c).aside (fun g' c' _ _=> by
   unfold upd2
   split
   ·rename_i e;obtain ⟨rfl,rfl⟩:=e;exact hz
   ·rfl) (fun _ _ _ _=> rfl)
  exact this
omit H in
theorem lstep {loads:Nat→Int} (hS:SAt w ow x B { lst A d t g0 c0 loads (g+1) c with qs:=upd2 (upd2 (lst A d t g0 c0 loads (g+1) c).qs g c (lqf A d t g0 c0 g c)) g c ((lqf A d t g0 c0 g c).raise (A.spots g c).2.2),aside:=upd2 (lst A d t g0 c0 loads (g+1) c).aside g c ((A.spots g c).1,(A.spots g c).2.1) }):
  SAt w ow x B (lst A d t g0 c0 loads (g+1) (c+1)):=by
 refine hS.congr _ _ (fun g' c' _ _=> ?_) (fun g' c' _ _=> ?_)
 ·by_cases e:g' =g∧c' =c
  ·obtain ⟨rfl,rfl⟩:=e
   rw [if_pos (by unfold Dn;omega)]
   show upd2 _ g' c' _ g' c' =_
   rw [upd2_same]
   rfl
  ·show upd2 _ g c _ g' c' =_
   rw [upd2_other _ _ _ _ _ _ e,upd2_other _ _ _ _ _ _ e]
   have:Dn (g+1) c g' c' ↔Dn (g+1) (c+1) g' c' :=by unfold Dn;omega
   simp only [this]
 ·by_cases e:g' =g∧c' =c
  ·obtain ⟨rfl,rfl⟩:=e
   rw [if_pos (by unfold Dn;omega)]
   show upd2 _ g' c' _ g' c' =_
   rw [upd2_same]
  ·show upd2 _ g c _ g' c' =_
   rw [upd2_other _ _ _ _ _ _ e]
   have:Dn (g+1) c g' c' ↔Dn (g+1) (c+1) g' c' :=by unfold Dn;omega
   simp only [this]
omit H in
theorem lrow {loads:Nat→Int} (hC:c=A.C) (hS:SAt w ow x B (lst A d t g0 c0 loads (g+1) c)):SAt w ow x B (lst A d t g0 c0 loads g 0):=by
 refine hS.congr _ _ (fun g' c' h1 h2=> ?_) (fun g' c' h1 h2=> ?_)
 ·have h2' :c' < A.C:=h2
  have:Dn (g+1) c g' c' ↔Dn g 0 g' c' :=by unfold Dn;omega
  simp only [this]
 ·have h2' :c' < A.C:=h2
  have:Dn (g+1) c g' c' ↔Dn g 0 g' c' :=by unfold Dn;omega
  simp only [this]
theorem MInv.rowEnd (I:MInv A d t g0 c0 w z ow mb M (g+1) c) (hC:c=A.C):MInv A d t g0 c0 w z ow mb M g 0:=by
 have hc0:=H.hc0
 have e:∀ m,lpr c0 (g+1) c m↔lpr c0 g 0 m:=fun m=> by
  unfold lpr
  refine or_congr Iff.rfl (exists_congr fun h=> and_congr Iff.rfl ?_)
  unfold Dn
  omega
 exact ⟨fun p v h=> by obtain ⟨a,m,k,b,c⟩:=I.a p v h;exact ⟨a,m,k,b,(e m).1 c⟩,fun p m k h1 h2 h3=> I.b p m k h1 h2 ((e m).2 h3)⟩
theorem MInv.stay (I:MInv A d t g0 c0 w z ow mb M (g+1) c) (h:g=0∨c≠c0∨lcm_ A d t g0 g=none):MInv A d t g0 c0 w z ow mb M (g+1) (c+1):=by
 refine ⟨fun p v hM=> ?_,fun p m k h1 h2 h3=> I.b p m k h1 h2 ?_⟩
 ·obtain ⟨a,m,k,b,e⟩:=I.a p v hM
  exact ⟨a,m,k,b,e.imp id fun ⟨h',e1,e2⟩=> ⟨h',e1,by unfold Dn at e2 ⊢;omega⟩⟩
 ·rcases h3 with h3|⟨h',e1,e2⟩
  ·exact .inl h3
  ·refine .inr ⟨h',e1, ?_⟩
   by_cases e3:h' =g∧c0=c
   ·obtain ⟨rfl,rfl⟩:=e3
    rcases lcm_mem H h2 with ⟨_,e4,_⟩|⟨_,h2',f1,f2,f3,f4,f5,f6,m2,k2,f7⟩
    ·have:=(lid H).2;omega
    ·obtain rfl:h' =h2' :=by omega
     rcases h with h|h|h
     ·omega
     ·exact absurd rfl h
     ·rw [h] at f7;cases f7
   ·unfold Dn at e2 ⊢;omega
theorem MInv.up (I:MInv A d t g0 c0 w z ow mb M (g+1) c) (hg0:0 < g) (hg:g < A.G) (hc:c=c0) {m k:Int} (hl:lcm_ A d t g0 g=some (m,k)) (p:K2) (hp1:(p.1.val:Int)=A.par g) (hp2:p.2.val=c):
  M p=none∧∀ b cap,Row w b 4 (fl [.int .i64 (65536+(g:Int)), .int .u64 (A.spots g c).1, .int .u32 (A.spots g c).2.1, .int .u32 (A.wt g)])→ow b= .no→b≠mb→z≤b→
   MInv A d t g0 c0 w z ow mb (fun y=> if y=p then some (slc b 1 cap) else M y) (g+1) (c+1):=by
 subst hc
 have hup:lcm_ A d t g0 p.1.val=some (65536+(g:Int),A.wt g):=by
  have:=chn_par (lpar H) d g0 t.id t.weight g m k H.hg0 (ldep H) hg0 hl
  rwa [show (A.par g).toNat=p.1.val from by omega] at this
 refine ⟨?_,fun b cap hr h1 h2 h3=> ⟨fun q v hM=> ?_,fun q m' k' h4 h5 h6=> ?_⟩⟩
 ·cases hM:M p with
  |none=> rfl
  |some v=>
   obtain ⟨_,m',k',e2,e3⟩:=I.a p v hM
   rw [hup] at e2
   obtain ⟨rfl,rfl⟩:=Prod.mk.injEq .. ▸Option.some.inj e2
   rcases e3 with e3|⟨h',e4,e5⟩
   ·omega
   ·unfold Dn at e5;omega
 ·try dsimp only at hM
  split at hM
  ·rename_i e;subst e
   exact ⟨hp2,_,_,hup, .inr ⟨g,rfl,by unfold Dn;omega⟩⟩
  ·obtain ⟨a,m',k',b',e⟩:=I.a q v hM
   exact ⟨a,m',k',b',e.imp id fun ⟨h',e1,e2⟩=> ⟨h',e1,by unfold Dn at e2 ⊢;omega⟩⟩
 ·by_cases e:q=p
  ·subst e
   rw [hup] at h5
   obtain ⟨rfl,rfl⟩:=Prod.mk.injEq .. ▸Option.some.inj h5
   refine ⟨b,cap,if_pos rfl, ?_,h1,h2,h3⟩
   unfold lvr
   rw [if_neg (by omega),show (65536+(g:Int) - 65536).toNat=g from by omega]
   exact hr
  ·try dsimp only
   rw [if_neg e]
   refine I.b q m' k' h4 h5 ?_
   rcases h6 with h6|⟨h',e1,e2⟩
   ·exact .inl h6
   ·refine .inr ⟨h',e1, ?_⟩
    by_cases e3:h' =g
    ·subst e3
     rcases lcm_mem H h5 with ⟨_,e4,_⟩|⟨_,h2',f1,f2,f3,f4,f5,f6,m2,k2,f7⟩
     ·have:=(lid H).2;omega
     ·obtain rfl:h' =h2' :=by omega
      exact absurd (Prod.ext (Fin.ext (by omega)) (Fin.ext (by omega))) e
    ·unfold Dn at e2 ⊢;omega
end
end Go.Q
namespace Go.Q
open Go.RowKit Go.Proofs
def regionOf' (n:Nat):Code→Option (Array Oper)
 | .region m ops _=> if m=n then some ops else none
 | .seq a b=> (regionOf' n a).or (regionOf' n b)
 | .cond _ a b=> (regionOf' n a).or (regionOf' n b)
 | .block _ a=> regionOf' n a
 | .loop a=> regionOf' n a
 |_=> none
set_option maxRecDepth 100000 in
set_option maxHeartbeats 4000000 in
theorem st20 (ops:Array Oper) (hops:(Tryz.f25.body.bind (regionOf' 20))=some ops) (w wi:World) (nb sg scp C K:Nat) (svv:Value) (F:Nat→Value) (xs:List Value) (t0 t1 t2 t3 t5 t6 t7 t8 t10 t11 t12 t13 t14 t15 t16 t17 t18 t19 t20 t21 t22 t23 t24 t25 t26 t27 t28 t29 t30 t31 t32 t33 t34 t35 t36 t37 t38 t39 t40 t41 t42 t43 t44 t45 t46 t47 t48 t49 t50 t51 t52 t53 t54 t55 t56 t57 t58 t59 t60 t61 t62 t63 t64 t65 t66 t67 t68 t69 t70 t71 t72 t73 t74 t75 t76 t77 t78 t79 t80 t81 t82 t83 t84 t85 t86 t87 t88 t89 t90 t91 t92 t93 t94 t95 t96 t97 t98 t99:Value) (Q:Exit→Act→World→Prop)
  (hS:Row wi nb 7 F) (e6:F 6=svv) (hs:wi.ownsRow w.heap.size 103 1 svv K xs) (hK:K≤256) (lw:w.heap.size≤wi.heap.size) (nq:svv.ownBlock≠some nb)
  (hQ:∀ (v92 v93 v94 v95 v96 v97:Value) (gs cap:Nat) (w' :World),Mod (fun b=> b=nb∨svv.ownBlock=some b) wi w' →Row w' nb 7 (fun i=> if i=6 then slc gs (K+1) cap else F i)→w'.ownsRow w.heap.size 103 1 (slc gs (K+1) cap) (K+1) (xs++ [slc sg C scp])→(svv.ownBlock=some gs∨wi.heap.size≤gs)→Q .normal { tmps:= #[t0,t1,t2,t3,ptr nb,t5,t6,t7,t8,slc sg C scp,t10,t11,t12,t13,t14,t15,t16,t17,t18,t19,t20,t21,t22,t23,t24,t25,t26,t27,t28,t29,t30,t31,t32,t33,t34,t35,t36,t37,t38,t39,t40,t41,t42,t43,t44,t45,t46,t47,t48,t49,t50,t51,t52,t53,t54,t55,t56,t57,t58,t59,t60,t61,t62,t63,t64,t65,t66,t67,t68,t69,t70,t71,t72,t73,t74,t75,t76,t77,t78,t79,t80,t81,t82,t83,t84,t85,t86,t87,t88,t89,t90,t91,v92,v93,v94,v95,v96,v97,t98,t99],defers:= [] } w'):
  (Code.region 20 ops false).wp Tryz.prog Q { tmps:= #[t0,t1,t2,t3,ptr nb,t5,t6,t7,t8,slc sg C scp,t10,t11,t12,t13,t14,t15,t16,t17,t18,t19,t20,t21,t22,t23,t24,t25,t26,t27,t28,t29,t30,t31,t32,t33,t34,t35,t36,t37,t38,t39,t40,t41,t42,t43,t44,t45,t46,t47,t48,t49,t50,t51,t52,t53,t54,t55,t56,t57,t58,t59,t60,t61,t62,t63,t64,t65,t66,t67,t68,t69,t70,t71,t72,t73,t74,t75,t76,t77,t78,t79,t80,t81,t82,t83,t84,t85,t86,t87,t88,t89,t90,t91,t92,t93,t94,t95,t96,t97,t98,t99],defers:= [] } wi:=by
 have h2:Tryz.f25.body.bind (regionOf' 20)=some _:=rfl
 rw [h2] at hops
 cases hops
 have c6:wi.cell? ⟨nb,6,none⟩=some svv:=by rw [hS.cell (by omega),e6]
 have ln:=hS.lt
 have HQ:=Lib.hid hQ
 clear hQ e6
 have sl1:∀ u∈ [slc sg C scp],u.oneCell' =true:=by simp [Value.oneCell']
 clear h2
 go_wp2_with (at_builtin;go_must (refine wpList_app_c 103 _ 1 24 Tryz.infoSSpot rfl _ _ 46 rfl Tryz.underlying46 rfl (by decide) (by decide) [slc sg C scp] rfl sl1 w.heap.size svv K xs _ _ rfl rfl ?_ ?_ ?_ ?_ ?_);go_must (· simp;omega);go_must (· omega);go_must (· (repeat first|(with_reducible exact hs)|(with_reducible refine World.ownsRow.drew ?_)|(with_reducible refine World.ownsRow.alloc ?_ _)));go_must (· exact row_one _ _ _ _ rfl);go_must (intro gs cap wB hB);go_must (have nB:=Appd.row hB (hS.alloc _) (fun h=> nq h));go_must (have lB:=nB.lt);go_must (have j6' :=nB.cell (i:=6) (by omega));have f6' :=nB.free 6)
 have mB:Mod (fun b=> b=nb∨svv.ownBlock=some b) wi wB:=Mod.trans ((Mod.refl _ wi).alloc _) (hB.mod.mono (fun b _ h=> .inr h)) (fun _ _ h=> h)
 have aq:=hB.at_
 simp only [World.size_alloc] at aq
 have gnb:gs≠nb:=by
  rintro rfl
  rcases aq with h|h
  ·exact nq h
  ·omega
 have mC:Mod (fun b=> b=nb) wB (wB.setCell ⟨nb,6,none⟩ (slc gs (K+1) cap)):=(Mod.refl (fun b=> b=nb) wB).setCell (p:=⟨nb,6,none⟩) (.inr rfl) _
 refine HQ.out _ _ _ _ _ _ gs cap _ (Mod.trans mB (mC.mono (fun b _ h=> .inl h)) (fun _ _ h=> h)) (nB.set (i:=6) (by omega) _) (ownsRow_mod hB.own mC (by rintro b hb rfl;exact gnb (Option.some.inj hb))) (aq.imp id (by omega))
end Go.Q
namespace Go.Q
open Go.RowKit Go.Proofs Go.Maps Go.Sort Go.Shelf
def Tryz.keysT_ren:Go.Shelf.Ren:=⟨fun|7=> 89|10=> 171|n=> n,fun|23=> 127|26=> 3|3=> 168|28=> 166|0=> 0|27=> 165|33=> 202|4=> 4|n=> n,fun|n=> n⟩
theorem Tryz.keysT:Go.Proofs.SlLaysZI.n7 Tryz.prog Tryz.keysT_ren:= {
 mixed:=by kernel_rfl
 f7:=⟨Tryz.f89.name,by decide,Tryz.func89.trans (congrArg some (by kernel_rfl))⟩
 f10:=⟨Tryz.f171.name,by decide,Tryz.func171.trans (congrArg some (by kernel_rfl))⟩
 t0:=Tryz.underlying0
 a0:=Tryz.isAgg0
 z0:=Tryz.sizeOf0
 v0:=Tryz.zeroValue0
 t4:=Tryz.underlying4
 a4:=Tryz.isAgg4
 z4:=Tryz.sizeOf4
 v4:=Tryz.zeroValue4
 t23:=Tryz.underlying127
 a23:=Tryz.isAgg127
 z23:=Tryz.sizeOf127
 v23:=Tryz.zeroValue127
 t26:=Tryz.underlying3
 a26:=Tryz.isAgg3
 z26:=Tryz.sizeOf3
 v26:=Tryz.zeroValue3
 t27:=Tryz.underlying165
 a27:=Tryz.isAgg165
 z27:=Tryz.sizeOf165
 v27:=Tryz.zeroValue165
 t28:=Tryz.underlying166
 a28:=Tryz.isAgg166
 z28:=Tryz.sizeOf166
 v28:=Tryz.zeroValue166
 t33:=Tryz.underlying202
 a33:=Tryz.isAgg202
 z33:=Tryz.sizeOf202
 v33:=Tryz.zeroValue202 }
def Tryz.sortedT_ren:Go.Shelf.Ren:=⟨fun|6=> 88|8=> 169|9=> 170|11=> 225|13=> 227|12=> 226|23=> 271|24=> 272|14=> 262|15=> 263|16=> 264|17=> 265|18=> 266|19=> 267|20=> 268|21=> 269|22=> 270|25=> 292|26=> 293|27=> 294|28=> 295|29=> 296|30=> 259|31=> 315|n=> n,fun|26=> 3|28=> 166|24=> 44|0=> 0|3=> 3|37=> 293|48=> 22|50=> 37|4=> 4|40=> 374|39=> 373|45=> 332|5=> 5|9=> 9|51=> 401|55=> 318|57=> 421|58=> 422|33=> 202|n=> n,fun|n=> n⟩
theorem Tryz.sortedT:Go.Proofs.SlLaysZI.n6 Tryz.prog Tryz.sortedT_ren:= {
 mixed:=by kernel_rfl
 f6:=⟨Tryz.f88.name,by decide,Tryz.func88.trans (congrArg some (by kernel_rfl))⟩
 f8:=⟨Tryz.f169.name,by decide,Tryz.func169.trans (congrArg some (by kernel_rfl))⟩
 f11:=⟨Tryz.f225.name,by decide,Tryz.func225.trans (congrArg some (by kernel_rfl))⟩
 t0:=Tryz.underlying0
 a0:=Tryz.isAgg0
 z0:=Tryz.sizeOf0
 v0:=Tryz.zeroValue0
 t24:=Tryz.underlying44
 a24:=Tryz.isAgg44
 z24:=Tryz.sizeOf44
 v24:=Tryz.zeroValue44
 t26:=Tryz.underlying3
 a26:=Tryz.isAgg3
 z26:=Tryz.sizeOf3
 v26:=Tryz.zeroValue3
 t28:=Tryz.underlying166
 a28:=Tryz.isAgg166
 z28:=Tryz.sizeOf166
 v28:=Tryz.zeroValue166
 i26:=by kernel_rfl }
def Tryz.sortT_ren:Go.Shelf.Ren:=⟨fun|5=> 170|8=> 227|7=> 226|19=> 271|20=> 272|10=> 262|11=> 263|12=> 264|13=> 265|14=> 266|15=> 267|16=> 268|17=> 269|18=> 270|30=> 292|31=> 293|32=> 294|33=> 295|34=> 296|35=> 259|40=> 315|n=> n,fun|23=> 44|25=> 3|3=> 3|32=> 293|22=> 44|0=> 0|44=> 22|46=> 37|4=> 4|36=> 374|35=> 373|41=> 332|5=> 5|9=> 9|53=> 401|57=> 318|63=> 421|64=> 422|n=> n,fun|n=> n⟩
theorem Tryz.sortT:Go.Proofs.SlLaysM.n5 Tryz.prog Tryz.sortT_ren:= {
 mixed:=by kernel_rfl
 f5:=⟨Tryz.f170.name,by decide,Tryz.func170.trans (congrArg some (by kernel_rfl))⟩
 f7:=⟨Tryz.f226.name,by decide,Tryz.func226.trans (congrArg some (by kernel_rfl))⟩
 f8:=Tryz.func227.trans (congrArg some (by kernel_rfl))
 f10:=⟨Tryz.f262.name,by decide,Tryz.func262.trans (congrArg some (by kernel_rfl))⟩
 f11:=⟨Tryz.f263.name,by decide,Tryz.func263.trans (congrArg some (by kernel_rfl))⟩
 f12:=⟨Tryz.f264.name,by decide,Tryz.func264.trans (congrArg some (by kernel_rfl))⟩
 f13:=⟨Tryz.f265.name,by decide,Tryz.func265.trans (congrArg some (by kernel_rfl))⟩
 f14:=⟨Tryz.f266.name,by decide,Tryz.func266.trans (congrArg some (by kernel_rfl))⟩
 f15:=⟨Tryz.f267.name,by decide,Tryz.func267.trans (congrArg some (by kernel_rfl))⟩
 f16:=⟨Tryz.f268.name,by decide,Tryz.func268.trans (congrArg some (by kernel_rfl))⟩
 f17:=⟨Tryz.f269.name,by decide,Tryz.func269.trans (congrArg some (by kernel_rfl))⟩
 f18:=⟨Tryz.f270.name,by decide,Tryz.func270.trans (congrArg some (by kernel_rfl))⟩
 f19:=Tryz.func271.trans (congrArg some (by kernel_rfl))
 f20:=Tryz.func272.trans (congrArg some (by kernel_rfl))
 f30:=⟨Tryz.f292.name,by decide,Tryz.func292.trans (congrArg some (by kernel_rfl))⟩
 f31:=Tryz.func293.trans (congrArg some (by kernel_rfl))
 f32:=Tryz.func294.trans (congrArg some (by kernel_rfl))
 f33:=⟨Tryz.f295.name,by decide,Tryz.func295.trans (congrArg some (by kernel_rfl))⟩
 f34:=⟨Tryz.f296.name,by decide,Tryz.func296.trans (congrArg some (by kernel_rfl))⟩
 f35:=⟨Tryz.f259.name,by decide,Tryz.func259.trans (congrArg some (by kernel_rfl))⟩
 f40:=⟨Tryz.f315.name,by decide,Tryz.func315.trans (congrArg some (by kernel_rfl))⟩
 t0:=Tryz.underlying0
 a0:=Tryz.isAgg0
 z0:=Tryz.sizeOf0
 v0:=Tryz.zeroValue0
 t3:=Tryz.underlying3
 a3:=Tryz.isAgg3
 z3:=Tryz.sizeOf3
 v3:=Tryz.zeroValue3
 t4:=Tryz.underlying4
 a4:=Tryz.isAgg4
 z4:=Tryz.sizeOf4
 v4:=Tryz.zeroValue4
 t5:=Tryz.underlying5
 a5:=Tryz.isAgg5
 z5:=Tryz.sizeOf5
 v5:=Tryz.zeroValue5
 t9:=Tryz.underlying9
 a9:=Tryz.isAgg9
 z9:=Tryz.sizeOf9
 v9:=Tryz.zeroValue9
 t22:=Tryz.underlying44
 a22:=Tryz.isAgg44
 z22:=Tryz.sizeOf44
 v22:=Tryz.zeroValue44
 t23:=Tryz.underlying44
 a23:=Tryz.isAgg44
 z23:=Tryz.sizeOf44
 v23:=Tryz.zeroValue44
 t25:=Tryz.underlying3
 a25:=Tryz.isAgg3
 z25:=Tryz.sizeOf3
 v25:=Tryz.zeroValue3
 t32:=Tryz.underlying293
 a32:=Tryz.isAgg293
 z32:=Tryz.sizeOf293
 v32:=Tryz.zeroValue293
 t35:=Tryz.underlying373
 a35:=Tryz.isAgg373
 z35:=Tryz.sizeOf373
 v35:=Tryz.zeroValue373
 t36:=Tryz.underlying374
 a36:=Tryz.isAgg374
 z36:=Tryz.sizeOf374
 v36:=Tryz.zeroValue374
 t41:=Tryz.underlying332
 a41:=Tryz.isAgg332
 z41:=Tryz.sizeOf332
 v41:=Tryz.zeroValue332
 t44:=Tryz.underlying22
 a44:=Tryz.isAgg22
 z44:=Tryz.sizeOf22
 v44:=Tryz.zeroValue22
 t46:=Tryz.underlying37
 a46:=Tryz.isAgg37
 z46:=Tryz.sizeOf37
 v46:=Tryz.zeroValue37
 t53:=Tryz.underlying401
 a53:=Tryz.isAgg401
 z53:=Tryz.sizeOf401
 v53:=Tryz.zeroValue401
 t57:=Tryz.underlying318
 a57:=Tryz.isAgg318
 z57:=Tryz.sizeOf318
 v57:=Tryz.zeroValue318
 t63:=Tryz.underlying421
 a63:=Tryz.isAgg421
 z63:=Tryz.sizeOf421
 v63:=Tryz.zeroValue421
 t64:=Tryz.underlying422
 a64:=Tryz.isAgg422
 z64:=Tryz.sizeOf422
 v64:=Tryz.zeroValue422 }
theorem Tryz.sortsT (m:Nat):AnyZI.SortsIn Tryz.prog Tryz.sortedT_ren Fence.wide m:=
 ⟨fun blk off cap ss W hH hblk hsz=> callsIn_wide.2 (AnyM.slices_Sort_int Tryz.sortT blk off cap ss W hH hblk hsz),
 fun p cap W=> callsIn_wide.2 (AnyM.slices_Sort_int_none Tryz.sortT p cap W)⟩
theorem keysOf (mb:Option Nat) (w:World):Calls Tryz.prog 89 #[.map mb] w fun e w' => e= .returned (.func (.func 171) #[] #[.pointer (some ⟨w.heap.size,0,none⟩)])∧w' =w.alloc (.cells #[.map mb] 127):=
 (callsIn_wide (n:=5)).1 (AnyZI.keys_in Tryz.keysT Fence.wide 5 trivial rfl mb w)
theorem IMap.owns {w:World} {b:Nat} {x:Int} {v:Value} (h:IMap w .i64 b [(x,v)]) (h0:0≤x) (h1:x < 65536):w.ownsMap Tryz.prog 3 (fun _=> some ((.nil:DataW Unit), [])) b 1 (.map [(.int .i64 x, .nil)]):=by
 obtain ⟨es,clock,hb,hes,hn,hc⟩:=h
 obtain ⟨l⟩:=es
 match l,hes with
 | [],hes=> simp at hes
 |_::_::_,hes=> simp at hes
 | [e],hes=>
  simp only [List.map_cons,List.map_nil,List.cons.injEq,Prod.mk.injEq,and_true] at hes
  have hk:keyOf Tryz.prog 3 e.key=some (.int .i64 x):=by
   rw [hes.1]
   have hw:(Lit.int .i64 x).wf=true:=by simp [Lit.wf,IntKind.min,IntKind.max,IntKind.bits,IntKind.signed];omega
   simp [keyOf,mapKey,Tryz.underlying3,hw]
  refine ⟨_,_,hb,⟨by simp [maxLen],⟨hc,hn,by simp⟩, ?_⟩,by simp, ?_⟩
  ·intro y hy
   obtain rfl:y=e:=by simpa using hy
   exact ⟨_,by simp only [Go.WideElems.rd,hk];rfl⟩
  ·simp [Go.WideElems.rg,Go.WideElems.rd,hk,DataW.insert]
set_option maxHeartbeats 1000000 in
theorem sortedOf {w:World} {b:Nat} {x:Int} {v:Value} (h:IMap w .i64 b [(x,v)]) (h0:0≤x) (h1:x < 65536):
  Calls Tryz.prog 88 #[.func (.func 171) #[] #[.pointer (some ⟨w.heap.size,0,none⟩)]] (w.alloc (.cells #[.map (some b)] 127)) fun e w' =>
   ∃ g cap,e= .returned (.slice (some ⟨g,0,none⟩) 1 cap)∧Row w' g 1 (fun _=> .int .i64 x)∧w.heap.size < g∧Below (w.heap.size+1) (w.alloc (.cells #[.map (some b)] 127)) w' :=by
 have hown:=h.owns h0 h1
 have hbl:=hown.lt
 have hseq:SeqGives Fence.wide 2 Tryz.prog 171 #[.pointer (some ⟨w.heap.size,0,none⟩)] encZ (fun ss=> ss.Perm (intKeys (.map [(.int .i64 x,(.nil:DataW Unit))]))) (Maps.size (.map [(.int .i64 x,(.nil:DataW Unit))])) (w.alloc (.cells #[.map (some b)] 127)):=
  AnyZI.keys_gives (ρ:=Tryz.keysT_ren) { Tryz.keysT with } Fence.wide _ trivial rfl (by omega) w.heap.size b 1 _ _ (by simp) (by simp) (by
   obtain ⟨es,clock,hb,Ft,hs,hD⟩:=hown
   exact ⟨es,clock,(Below.heap_alloc _ _ b hbl).trans hb,Ft,hs,hD⟩)
 have cS:=AnyZI.sorted_in Tryz.sortedT Fence.wide 5 trivial trivial trivial trivial rfl (by omega) (Tryz.sortsT _) (enters_of Tryz.func170 (by kernel_rfl) rfl) 171 #[.pointer (some ⟨w.heap.size,0,none⟩)] trivial (enters_of Tryz.func171 (by kernel_rfl) rfl) _ _ (by simp [Maps.size,maxLen]) (by simp [Maps.size]) _ hseq
 change CallsIn _ _ Tryz.prog 88 _ _ _ at cS
 refine ((callsIn_wide (n:=5)).1 cS).mono ?_
 rintro e w' ⟨v,ss,rfl,hS,hrow,hnil,hb⟩
 have e1:ss= [x]:=by
  have:=hS
  simp only [intKeys,List.map_cons,List.map_nil] at this
  exact List.perm_singleton.1 this
 subst e1
 obtain ⟨hl,⟨h2,h3⟩|⟨g,cap,cur,rfl,hbb,hg,hn,hm,hs,ht⟩⟩:=hrow
 ·simp at h3
 ·refine ⟨g,cap,rfl, ?_,(by (have h9:w.heap.size+1≤g:=by simpa using hbb);omega),by simpa using hb⟩
  have:=own_row (w:=w') (base:=0) (e:=_) (size:=1) (g:=g) (cap:=cap) (n:=1) ⟨hl, .inr ⟨g,cap,cur,rfl,Nat.zero_le _,hg,hn,hm,hs,ht⟩⟩
  refine this.congr (fun i hi=> ?_)
  obtain rfl:i=0:=by omega
  simp [encZ,List.mergeSort]
set_option maxRecDepth 100000 in
theorem sortedOf' {w:World} {b n:Nat} {x:Int} {v:Value} (h:IMap w .i64 b [(x,v)]) (h0:0≤x) (h1:x < 65536) (hn:n=w.heap.size):
  Calls Tryz.prog 88 #[.func (.func 171) #[] #[.pointer (some ⟨n,0,none⟩)]] (w.alloc (.cells #[.map (some b)] 127)) fun e w' =>
   ∃ g cap,e= .returned (.slice (some ⟨g,0,none⟩) 1 cap)∧Row w' g 1 (fun _=> .int .i64 x)∧w.heap.size < g∧Below (w.heap.size+1) (w.alloc (.cells #[.map (some b)] 127)) w' :=by subst hn;exact sortedOf h h0 h1
end Go.Q
