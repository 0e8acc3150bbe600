/- A part of the proof that TopGreat answers true: what some of the functions on its road compute. -/
import Derived.Test.YtckddephdbhagaaGreatDoorQ6
import Derived.Test.YtckddephdbhagaaGreatDoorQ8
import Derived.Test.YtckddephdbhagaaGreatDoorQ14
import Derived.Test.YtckddephdbhagaaGreatDoorQ15
import Derived.Test.YtckddephdbhagaaGreatDoorQ16
set_option linter.unusedVariables false
set_option linter.unusedSimpArgs false
namespace Go.Q
open Go.RowKit Go.Proofs
abbrev snv (nx:Nat) (B:STB) (A:ASt):Value:= .agg #[.int .i64 nx, .int .i64 A.C, .int .u64 A.cr,slc B.gb A.G B.gcap,slc B.cl A.C B.ccap,slc B.cu A.C B.ucap,B.tv,slc B.so A.G B.scap]
def PAt (w:World) (v:Value) (L:List Nat):Prop:=∃ g c,v=slc g L.length c∧Row w g (L.length * 1) (fl (ul L))
theorem PAt.mod {w w' :World} {v:Value} {L:List Nat} (h:PAt w v L) (hm:Mod No w w'):PAt w' v L:=by
 obtain ⟨g,c,e,R⟩:=h
 exact ⟨g,c,e,R.mod hm (fun h=> h)⟩
theorem PAt.of {w:World} {base:Nat} {v:Value} {n:Nat} {L:List Nat} (h:w.ownsRow base 37 1 v n (ul L)) (hn:0 < n) (hl:L.length=n):PAt w v L:=by
 obtain ⟨g,c,rfl,_⟩:=own_pos h hn
 subst hl
 exact ⟨g,c,rfl,own_row1 h⟩
theorem nat_of (x:Int) (h:0≤x):∃ m:Nat,x=m∧x.toNat=m:=⟨x.toNat,(Int.toNat_of_nonneg h).symm,rfl⟩
structure Rg (A:ASt):Prop where
 C1:1≤A.C
 C2:A.C≤64
 G1:2≤A.G
 G2:A.G≤256
 cr:0≤A.cr∧A.cr≤1099511627776
 gr:∀ g,g < A.G→0≤A.par g∧A.par g≤65536∧0≤A.wt g∧A.wt g≤65536
 cl:∀ c,c < A.C→0≤A.clocks c∧A.clocks c≤281474976710656
 cu:∀ c,c < A.C→0≤A.current c∧A.current c≤65535
 tk:∀ t,A.task=some t→1≤t.id∧t.id≤65535∧0≤t.group∧t.group < A.G∧1≤t.weight∧t.weight≤65536∧0≤t.cpu∧t.cpu < A.C∧0≤t.mask∧t.mask < 18446744073709551616∧0≤t.v∧t.v < 18446744073709551616∧0≤t.r∧t.r < 4294967296
 sp:∀ g c,g < A.G→c < A.C→0≤(A.spots g c).1∧(A.spots g c).1 < 18446744073709551616∧0≤(A.spots g c).2.1∧(A.spots g c).2.1 < 4294967296∧0≤(A.spots g c).2.2∧(A.spots g c).2.2 < 18446744073709551616
section
variable {w:World} {ow:Nat→SOwn} {B:STB} {A:ASt} (nx:Nat)
theorem row_ints1 (w:World) (b x:Nat) (t:TypeId) (hb:b=w.heap.size):Row (w.alloc (.cells #[.int .i64 x] t)) b 1 (ints fun _=> (x:Int)):=(row_one w b _ t hb).congr (fun i hi=> by obtain rfl:i=0:=(by omega);rfl)
set_option maxRecDepth 100000 in
theorem c_next (hx:nx≤4611686018427387904):Calls Tryz.prog 229 #[snv nx B A] w fun e w' => ∃ v,e= .returned v∧PAt w' v [nx]∧Mod No w w' :=by
 go_enter Tryz.func229,Tryz.ntmps229
 go_wp2_with fail
 refine (numbers_ok _ 1 1 (fun _=> (nx:Int)) (fun i _=> by omega) (by omega) _ (row_ints1 _ _ nx 3 (by simp))).mono ?_;rintro e w1 ⟨v,rfl,hO,hm⟩
 go_wp2
 go_ret
 exact ⟨v,rfl,PAt.of hO (by omega) (by simp [inum]),Mod.trans (((Mod.refl No w).alloc _).alloc _) hm (fun _ _ h=> h)⟩
set_option maxRecDepth 100000 in
theorem c_config (R:Rg A):Calls Tryz.prog 230 #[snv nx B A] w fun e w' => ∃ v,e= .returned v∧PAt w' v [A.C,A.cr.toNat,A.G]∧Mod No w w' :=by
 have h1:=R.C2
 have h2:=R.G2
 have h3:=R.cr.2
 have hcr:((A.cr.toNat:Nat):Int)=A.cr:=Int.toNat_of_nonneg R.cr.1
 go_enter Tryz.func230,Tryz.ntmps230
 go_wp2
 go_ret
 refine ⟨_,rfl,⟨_,_,rfl, ?_⟩,by (repeat first|(with_reducible exact (Mod.refl No w))|(with_reducible refine Mod.alloc ?_ _)|(with_reducible refine Mod.drew ?_)|(with_reducible refine Mod.drewN ?_ _)|(with_reducible refine Mod.sc ?_))⟩
 simp only [ul,List.map_cons,List.map_nil,hcr]
 exact row_newL' _ _ [_,_,_] _ (by simp)
set_option maxRecDepth 100000 in
theorem c_clocks (R:Rg A) (h:StAt w ow B A):Calls Tryz.prog 232 #[snv nx B A] w fun e w' => ∃ v,e= .returned v∧PAt w' v (inum A.clocks 0 A.C)∧Mod No w w' :=by
 have h1:=R.C2
 go_enter Tryz.func232,Tryz.ntmps232
 go_wp2_with fail
 refine (numbers_ok B.cl A.C B.ccap A.clocks (fun i hi=> by have:=R.cl i hi;omega) (by omega) _ ((h.1 .cl).2.alloc _)).mono ?_;rintro e w1 ⟨v,rfl,hO,hm⟩
 go_wp2
 go_ret
 exact ⟨v,rfl,PAt.of hO R.C1 (inum_len _ _ _),Mod.trans ((Mod.refl No w).alloc _) hm (fun _ _ h=> h)⟩
set_option maxRecDepth 100000 in
theorem c_current (R:Rg A) (h:StAt w ow B A):Calls Tryz.prog 233 #[snv nx B A] w fun e w' => ∃ v,e= .returned v∧PAt w' v (inum A.current 0 A.C)∧Mod No w w' :=by
 have h1:=R.C2
 go_enter Tryz.func233,Tryz.ntmps233
 go_wp2_with fail
 refine (numbers_ok B.cu A.C B.ucap A.current (fun i hi=> by have:=R.cu i hi;omega) (by omega) _ ((h.1 .cu).2.alloc _)).mono ?_;rintro e w1 ⟨v,rfl,hO,hm⟩
 go_wp2
 go_ret
 exact ⟨v,rfl,PAt.of hO R.C1 (inum_len _ _ _),Mod.trans ((Mod.refl No w).alloc _) hm (fun _ _ h=> h)⟩
end
end Go.Q
set_option linter.unusedSectionVars false
namespace Go.Q
open Go.RowKit Go.Proofs
def shq (A:ASt) (d:Nat) (t:TK) (g0 c0:Nat) (ld:Int) (g c:Nat):QSt:=
 if c=c0 then (match lcm_ A d t g0 g with|some (m,k)=> .o (A.spots g c).2.2 ld m (lvr A t c0 m).1 (lvr A t c0 m).2 k|none=> .e (A.spots g c).2.2 0) else .e (A.spots g c).2.2 0
section
variable {A:ASt} {d:Nat} {t:TK} {g0 c0:Nat} (H:ROk A d t g0 c0)
include H
theorem shq_fl (ld:Int) (g c:Nat):(shq A d t g0 c0 ld g c).fl=(A.spots g c).2.2:=by
 unfold shq
 split
 ·cases lcm_ A d t g0 g <;> rfl
 ·rfl
theorem shq_off (ld:Int) (g c:Nat) (h:c≠c0∨lcm_ A d t g0 g=none):(shq A d t g0 c0 ld g c).len=0:=by
 unfold shq
 rcases h with h|h
 ·rw [if_neg h];rfl
 ·rw [h];split <;> rfl
theorem shq_on (ld:Int) (g:Nat) {m k:Int} (h:lcm_ A d t g0 g=some (m,k)):shq A d t g0 c0 ld g c0= .o (A.spots g c0).2.2 ld m (lvr A t c0 m).1 (lvr A t c0 m).2 k:=by
 unfold shq
 rw [if_pos rfl,h]
theorem stateA (w:World) (ow:Nat→Own) (x:Nat) (B:SB) (loads:Nat→Int) (wk v' r' k' :Int) (qs:Nat→Nat→QSt) (aside:Nat→Nat→Int×Int) (ld:Nat→Nat→Int)
  (h:SAt w ow x B ⟨A.C,A.G,A.cr,A.par,A.wt,A.clocks,A.current,loads,wk,some ⟨t.id,t.group,t.weight,t.cpu,t.mask,t.ready,v',r',k'⟩,qs,aside⟩)
  (hq:∀ g c,g < A.G→c < A.C→qs g c=shq A d t g0 c0 (ld g c) g c)
  (ha:∀ g c,g < A.G→c < A.C→(g=0∨c≠c0∨lcm_ A d t g0 g=none)→aside g c=((A.spots g c).1,(A.spots g c).2.1)):
  Calls Tryz.prog 25 #[ptr x] w fun e w' => ∃ B' ow',e= .returned (.tuple #[stv B' A, .int .i64 0])∧StAt w' ow' B' A∧Mod No w w' ∧(∀ b,ow' b≠ .no→w.heap.size≤b)∧A.G≤B'.gcap:=by
 obtain ⟨hrd,_,_,_,id0,id1⟩:=H.one.ok t H.ht
 have l0:lcm_ A d t g0 g0=some (t.id,t.weight):=by
  unfold lcm_
  cases d <;> simp [chn]
 have hv:lvr A t c0 t.id=(t.v,t.r):=by
  unfold lvr
  rw [if_pos id1]
 have q0:=hq g0 c0 H.hg0 H.hc0
 rw [shq_on H _ g0 l0,hv] at q0
 have eA:(⟨A.C,A.G,A.cr,A.par,A.wt,A.clocks,A.current,some ⟨t.id,t.group,t.weight,t.cpu,t.mask,t.ready,t.v,t.r⟩,A.spots⟩:ASt)=A:=by
  have:=H.ht
  cases A
  cases t
  dsimp only at this
  rw [this]
 have hC:=H.C
 have hG:=H.T.g1
 have hG2:=H.T.g2
 have:=State_ok h _ c0 g0 _ _ t.v t.r _ A.spots (fun g _=> A.wt g) rfl H.htg H.htc hrd H.hc0 H.hg0 (by show (0:Int)≤t.id;omega) id1 q0 (fun g c hg hc w' hS=> ?_) (fun g c hg hc=> ?_) (by show 0 < A.C;omega) (by show A.C≤64;omega) hG hG2
 ·refine this.mono ?_
  rintro e w' ⟨B',ow',h1,h2,h3⟩
  dsimp only at h1 h2
  rw [eA] at h2
  refine ⟨B',ow', ?_,h2,h3⟩
  rw [h1]
 ·by_cases hoff:g=0∨c≠c0∨lcm_ A d t g0 g=none
  ·refine (spot_off hS g c hc hg ?_).mono ?_
   ·rcases hoff with e|e
    ·exact .inl e
    ·right
     show (qs g c).len=0
     rw [hq g c hg hc]
     exact shq_off H _ _ _ e
   ·rintro e w'' ⟨h1,h2⟩
    refine ⟨?_,h2⟩
    dsimp only at h1
    rw [ha g c hg hc hoff] at h1
    exact h1
  ·have hg0:0 < g:=Nat.pos_of_ne_zero (fun e=> hoff (.inl e))
   have hcc:c=c0:=Classical.byContradiction fun e=> hoff (.inr (.inl e))
   obtain ⟨m,k,hl⟩:∃ m k,lcm_ A d t g0 g=some (m,k):=by
    cases hl:lcm_ A d t g0 g with
    |none=> exact absurd (.inr (.inr hl)) hoff
    |some p=> exact ⟨p.1,p.2,rfl⟩
   subst hcc
   have hgA:g < A.G:=hg
   have hp:=lpar H g hg0 hgA
   have hup:lcm_ A d t g0 (A.par g).toNat=some (65536+(g:Int),A.wt g):=chn_par (lpar H) d g0 t.id t.weight g m k H.hg0 (ldep H) hg0 hl
   have hv2:lvr A t c (65536+(g:Int))=((A.spots g c).1,(A.spots g c).2.1):=by
    unfold lvr
    rw [if_neg (by omega),show (65536+(g:Int) - 65536).toNat=g from by omega]
   have q1:=hq (A.par g).toNat c (by omega) hc
   rw [shq_on H _ _ hup,hv2] at q1
   refine (spot_on hS g (A.par g).toNat c _ _ _ _ _ H.T hc hg hg0 (by show A.par g=_;omega) ?_ q1).mono ?_
   ·show (qs g c).len=1
    rw [hq g c hg hc,shq_on H _ _ hl]
    rfl
   ·exact fun e w'' h=> h
 ·show (qs g c).fl=_
  rw [hq g c hg hc,shq_fl H]
theorem memb_lcm {g:Nat} {m k:Int} (h:lcm_ A d t g0 g=some (m,k)):∃ p,memb A d g c0=some p∧p.1=(lvr A t c0 m).1:=by
 have hw:=chn_weight A.par A.wt d g0 t.id 0 t.weight g
 have h' :chn A.par A.wt d g0 t.id t.weight g=some (m,k):=h
 rw [h'] at hw
 unfold memb
 rw [H.ht]
 simp only
 rw [if_pos H.htc.symm,show t.group.toNat=g0 from by have:=H.htg;omega]
 cases hl:chn A.par A.wt d g0 t.id 0 g with
 |none=> rw [hl] at hw;cases hw
 |some q=>
  obtain ⟨m',k'⟩:=q
  rw [hl] at hw
  have e:m' =m:=Option.some.inj hw
  subst e
  simp only
  unfold lvr
  split
  ·exact ⟨_,rfl,rfl⟩
  ·exact ⟨_,rfl,rfl⟩
theorem memb_nolcm {g c:Nat} (h:c≠c0∨lcm_ A d t g0 g=none):memb A d g c=none:=by
 unfold memb
 rw [H.ht]
 simp only
 have htc:=H.htc
 rcases h with h|h
 ·rw [if_neg (by omega)]
 ·have hw:=chn_weight A.par A.wt d g0 t.id 0 t.weight g
  have h' :chn A.par A.wt d g0 t.id t.weight g=none:=h
  rw [h'] at hw
  rw [show t.group.toNat=g0 from by have:=H.htg;omega]
  cases hl:chn A.par A.wt d g0 t.id 0 g with
  |none=> split <;> rfl
  |some q=> rw [hl] at hw;cases hw
theorem lst_shows (hf:∀ g c,g < A.G→c < A.C→0≤(A.spots g c).2.2) (g c:Nat) (hg:g < A.G) (hc:c < A.C):lq A d t g0 c0 g c=shq A d t g0 c0 (match lcm_ A d t g0 g with|some (_,k)=> 0+k|none=> 0) g c:=by
 have h0:=hf g c hg hc
 unfold lq lqf shq
 by_cases e:c=c0
 ·subst e
  rw [if_pos rfl,if_pos rfl]
  cases hl:lcm_ A d t g0 g with
  |none=>
   show QSt.e (mxI 0 _) 0=_
   unfold mxI
   rw [show (if (0:Int) < (A.spots g c).2.2 then (A.spots g c).2.2 else 0)=(A.spots g c).2.2 from by split <;> omega]
  |some q=>
   obtain ⟨m,k⟩:=q
   obtain ⟨p,hp,e1⟩:=memb_lcm H hl
   have h1:=H.fl g c p hg hc hp
   have h2:=(lcm_rent H hl).1.v1
   show QSt.o (mxI (mxI 0 (lvr A t c m).1) (A.spots g c).2.2) (0+k) m _ _ k=_
   rw [show mxI (mxI 0 (lvr A t c m).1) (A.spots g c).2.2=(A.spots g c).2.2 from by unfold mxI;split <;> split <;> omega]
 ·rw [if_neg e,if_neg e]
  show QSt.e (mxI 0 _) 0=_
  unfold mxI
  rw [show (if (0:Int) < (A.spots g c).2.2 then (A.spots g c).2.2 else 0)=(A.spots g c).2.2 from by split <;> omega]
theorem stateL (hf:∀ g c,g < A.G→c < A.C→0≤(A.spots g c).2.2) (w:World) (ow:Nat→Own) (x:Nat) (B:SB) (loads:Nat→Int) (h:SAt w ow x B (lst A d t g0 c0 loads 0 0)):
  Calls Tryz.prog 25 #[ptr x] w fun e w' => ∃ B' ow',e= .returned (.tuple #[stv B' A, .int .i64 0])∧StAt w' ow' B' A∧Mod No w w' ∧(∀ b,ow' b≠ .no→w.heap.size≤b)∧A.G≤B'.gcap:=by
 have hd:∀ g c:Nat,Dn 0 0 g c:=fun g c=> .inl (Nat.zero_le _)
 refine stateA H w ow x B loads 0 t.v t.r t.weight _ _ (fun g _=> match lcm_ A d t g0 g with|some (_,k)=> 0+k|none=> 0) h (fun g c hg hc=> ?_) (fun g c hg hc _=> ?_)
 ·show (if Dn 0 0 g c then lq A d t g0 c0 g c else .e 0 0)=_
  rw [if_pos (hd g c)]
  exact lst_shows H hf g c hg hc
 ·show (if Dn 0 0 g c then _ else _)=_
  rw [if_pos (hd g c)]
end
theorem memb_rsp (A:ASt) (d g c:Nat):memb { A with spots:=rsp A d } d g c=memb A d g c:=by
 have e:∀ g c,(rsp A d g c).1=(A.spots g c).1:=fun g c=> by
  unfold rsp
  cases memb A d g c <;> rfl
 unfold memb
 simp only [e]
theorem rsp_1 (A:ASt) (d g c:Nat):(rsp A d g c).1=(A.spots g c).1∧(rsp A d g c).2.1=(A.spots g c).2.1:=by
 unfold rsp
 cases memb A d g c <;> exact ⟨rfl,rfl⟩
theorem rsp_zero (A:ASt) (d:Nat) (hz:A.spots=fun _ _=> (0,0,0)) (ht:∀ t,A.task=some t→t.v=0): { A with spots:=rsp A d }=A:=by
 have:rsp A d=A.spots:=by
  funext g c
  unfold rsp
  cases hm:memb A d g c with
  |none=> rfl
  |some p=>
   have hp:p.1=0:=by
    unfold memb at hm
    cases hA:A.task with
    |none=> rw [hA] at hm;cases hm
    |some t=>
     rw [hA] at hm
     simp only at hm
     split at hm
     ·split at hm
      ·cases hm
      ·split at hm
       ·have:=ht t hA
        rw [←Option.some.inj hm]
        exact this
       ·rw [←Option.some.inj hm,hz]
     ·cases hm
   rw [hz]
   show ((0:Int),(0:Int),mxI 0 p.1)=(0,0,0)
   rw [hp]
   rfl
 rw [this]
structure Nums (par wt:Nat→Int) (d g0 c0:Nat) (k n mask:Int):Prop where
 T:Tree 256 par wt
 dep:Dep par g0 d
 d4:d≤4
 hg:g0 < 256
 hc:c0 < 64
 k1:1≤k
 k2:k≤65536
 n1:1≤n
 n2:n≤10000
 m1:1≤mask
 m2:mask < 18446744073709551616
 m3:bits BinOp.and IntKind.u64 (mask / 2 ^ c0) 1=1
 m4:(mask / 2 ^ c0) % 2=1
section
variable (par wt:Nat→Int) (d g0 c0:Nat) (k n mask:Int)
abbrev tk1:TK:=⟨5,g0,k,c0,mask,true,0,0⟩
abbrev tk3:TK:=⟨5,g0,k,c0,mask,true,0+(n * 1048576+0) / k,(n * 1048576+0) % k⟩
abbrev AT1:ASt:=⟨64,256,0,par,wt,fun _=> 0,fun _=> 0,some (tk1 g0 c0 k mask),fun _ _=> (0,0,0)⟩
abbrev AT2:ASt:=⟨64,256,0,par,wt,fun _=> 0,upd1 (fun _=> 0) c0 5,some (tk1 g0 c0 k mask),fun _ _=> (0,0,0)⟩
abbrev AT3:ASt:=⟨64,256,0,par,wt,upd1 (fun _=> 0) c0 n,upd1 (fun _=> 0) c0 5,some (tk3 g0 c0 k n mask),tkS (AT2 par wt g0 c0 k mask) n d g0 c0 0⟩
abbrev AT4:ASt:=⟨64,256,0,par,wt,upd1 (fun _=> 0) c0 n,upd1 (fun _=> 0) c0 5,some (tk3 g0 c0 k n mask),rsp (AT3 par wt d g0 c0 k n mask) d⟩
end
section
variable {par wt:Nat→Int} {d g0 c0:Nat} {k n mask:Int} (N:Nums par wt d g0 c0 k n mask)
include N
theorem Nums.one1:One1 (AT1 par wt g0 c0 k mask) d:=⟨N.T,fun t e=> by
 cases e
 have:=N.hg
 exact ⟨rfl,by show (0:Int)≤g0;omega,by show (g0:Int) < (256:Nat);omega,by show Dep par ((g0:Int)).toNat d;simpa using N.dep,by show (1:Int)≤5;omega,by show (5:Int) < 65536;omega⟩⟩
theorem Nums.one2:One1 (AT2 par wt g0 c0 k mask) d:=⟨N.T,N.one1.ok⟩
theorem Nums.one3:One1 (AT3 par wt d g0 c0 k n mask) d:=⟨N.T,fun t e=> by
 cases e
 have:=N.hg
 exact ⟨rfl,by show (0:Int)≤g0;omega,by show (g0:Int) < (256:Nat);omega,by show Dep par ((g0:Int)).toNat d;simpa using N.dep,by show (1:Int)≤5;omega,by show (5:Int) < 65536;omega⟩⟩
theorem Nums.one4:One1 (AT4 par wt d g0 c0 k n mask) d:=⟨N.T,N.one3.ok⟩
theorem Nums.vok1:VOk (AT1 par wt g0 c0 k mask):=⟨fun t e=> by cases e;show (0:Int) < _;omega,fun _ _=> by show (0:Int) < _;omega⟩
theorem Nums.vok2:VOk (AT2 par wt g0 c0 k mask):=⟨N.vok1.tv,N.vok1.sv⟩
theorem Nums.div {j:Int} (h1:1≤j) (h2:j≤65536):REnt (0+(n * 1048576+0) / j) ((n * 1048576+0) % j) j:=by
 have a1:=N.n1
 have a2:=N.n2
 have b0:0≤(n * 1048576+0) / j:=Int.ediv_nonneg (by omega) (by omega)
 have b1:(n * 1048576+0) / j≤n * 1048576+0:=Int.ediv_le_self _ (by omega)
 have b2:0≤(n * 1048576+0) % j:=Int.emod_nonneg _ (by omega)
 have b3:(n * 1048576+0) % j < j:=Int.emod_lt_of_pos _ (by omega)
 exact ⟨h1,h2,b2,b3,by omega,by omega⟩
theorem Nums.vle {j:Int} (h1:1≤j):0+(n * 1048576+0) / j≤100000000000:=by
 have a1:=N.n1
 have a2:=N.n2
 have b1:(n * 1048576+0) / j≤n * 1048576+0:=Int.ediv_le_self _ (by omega)
 omega
theorem Nums.sp3 (g c:Nat) (hg:g < 256):REnt ((AT3 par wt d g0 c0 k n mask).spots g c).1 ((AT3 par wt d g0 c0 k n mask).spots g c).2.1 (wt g)∧((AT3 par wt d g0 c0 k n mask).spots g c).1≤100000000000∧((AT3 par wt d g0 c0 k n mask).spots g c).2.2=0:=by
 have w:=N.T.wtOk g hg
 show REnt (tkS _ n d g0 c0 0 g c).1 (tkS _ n d g0 c0 0 g c).2.1 (wt g)∧(tkS _ n d g0 c0 0 g c).1≤_∧(tkS _ n d g0 c0 0 g c).2.2=0
 unfold tkS
 split
 ·exact ⟨N.div w.1 w.2,N.vle w.1,rfl⟩
 ·exact ⟨⟨w.1,w.2,Int.le_refl _,by show (0:Int) < _;omega,Int.le_refl _,by show (0:Int) < _;omega⟩,by show (0:Int)≤_;omega,rfl⟩
theorem Nums.fl4 (g c:Nat):((AT4 par wt d g0 c0 k n mask).spots g c).2.2=match memb (AT3 par wt d g0 c0 k n mask) d g c with|none=> ((AT3 par wt d g0 c0 k n mask).spots g c).2.2|some p=> mxI ((AT3 par wt d g0 c0 k n mask).spots g c).2.2 p.1:=by
 show (rsp _ d g c).2.2=_
 unfold rsp
 cases memb (AT3 par wt d g0 c0 k n mask) d g c <;> rfl
theorem Nums.vok3:VOk (AT3 par wt d g0 c0 k n mask):=by
 refine ⟨fun t e=> ?_,fun g c=> ?_⟩
 ·cases e
  have:=N.vle N.k1
  show 0+(n * 1048576+0) / k < _
  omega
 ·by_cases hg:g < 256
  ·have:=(N.sp3 g c hg).2.1
   omega
  ·show (tkS _ n d g0 c0 0 g c).1 < _
   unfold tkS
   rw [if_neg]
   ·show (0:Int) < _;omega
   ·rintro ⟨_,_,h⟩
    have:=chn_le N.T.parOk d g0 0 0 g N.hg N.dep h
    have:=N.hg
    omega
theorem Nums.vok4:VOk (AT4 par wt d g0 c0 k n mask):=⟨N.vok3.tv,fun g c=> by
 rw [show ((AT4 par wt d g0 c0 k n mask).spots g c).1=((AT3 par wt d g0 c0 k n mask).spots g c).1 from (rsp_1 _ d g c).1]
 exact N.vok3.sv g c⟩
theorem Nums.memb4 (g c:Nat):memb (AT4 par wt d g0 c0 k n mask) d g c=memb (AT3 par wt d g0 c0 k n mask) d g c:=memb_rsp (AT3 par wt d g0 c0 k n mask) d g c
theorem Nums.rok:ROk (AT4 par wt d g0 c0 k n mask) d (tk3 g0 c0 k n mask) g0 c0:=by
 have k1:=N.k1
 have k2:=N.k2
 have n1:=N.n1
 have n2:=N.n2
 have m1:=N.m1
 have e:=fun g c=> rsp_1 (AT3 par wt d g0 c0 k n mask) d g c
 refine ⟨N.T,N.one4,N.vok4,rfl,rfl,N.hg,rfl,N.hc,rfl,⟨Int.le_refl _,by show (0:Int)≤_;omega⟩,fun c _=> ?_,fun g c hg _=> ?_,fun c _=> ?_,N.k1,N.k2,by show 0≤mask;omega,N.m2,N.m3,N.div N.k1 N.k2,fun c _=> ?_,fun g c p hg _ hm=> ?_⟩
 ·show 0≤upd1 (fun _=> 0) c0 n c∧upd1 (fun _=> 0) c0 n c≤_
  unfold upd1
  split <;> (try dsimp only) <;> omega
 ·show REnt (rsp _ d g c).1 (rsp _ d g c).2.1 _
  rw [(e g c).1,(e g c).2]
  exact (N.sp3 g c hg).1
 ·show (rsp _ d 0 c).1=0∧(rsp _ d 0 c).2.1=0
  rw [(e 0 c).1,(e 0 c).2]
  show (tkS _ n d g0 c0 0 0 c).1=0∧(tkS _ n d g0 c0 0 0 c).2.1=0
  unfold tkS
  rw [if_neg (fun h=> absurd h.2.1 (Nat.lt_irrefl 0))]
  exact ⟨rfl,rfl⟩
 ·show upd1 (fun _=> (0:Int)) c0 5 c=0∨(upd1 (fun _=> (0:Int)) c0 5 c=5∧c=c0)
  unfold upd1
  split
  ·exact .inr ⟨rfl,by assumption⟩
  ·exact .inl rfl
 ·rw [N.fl4,←N.memb4,hm]
  show p.1≤mxI _ p.1
  unfold mxI
  split <;> omega
theorem Nums.pv (g c:Nat) (p:Int×Int×Int) (h:memb (AT3 par wt d g0 c0 k n mask) d g c=some p):0≤p.1∧p.1≤100000000000:=by
 rcases memb_inv N.one3 h with ⟨t,e,_,_,rfl⟩|⟨x,_,hx,_,_,_,rfl⟩
 ·cases e
  exact ⟨(N.div N.k1 N.k2).v1,N.vle N.k1⟩
 ·have:=N.sp3 x c hx
  exact ⟨this.1.v1,this.2.1⟩
theorem Nums.fl4b (g c:Nat) (hg:g < 256):0≤((AT4 par wt d g0 c0 k n mask).spots g c).2.2∧((AT4 par wt d g0 c0 k n mask).spots g c).2.2≤100000000000:=by
 rw [N.fl4]
 have h0:=(N.sp3 g c hg).2.2
 cases hm:memb (AT3 par wt d g0 c0 k n mask) d g c with
 |none=> rw [h0];simp
 |some p=>
  have:=N.pv g c p hm
  rw [h0]
  show 0≤mxI 0 p.1∧mxI 0 p.1≤_
  unfold mxI
  split <;> omega
theorem Nums.rg:Rg (AT4 par wt d g0 c0 k n mask):=by
 have k1:=N.k1
 have k2:=N.k2
 have n1:=N.n1
 have n2:=N.n2
 have m1:=N.m1
 have m2:=N.m2
 have hg:=N.hg
 have hc:=N.hc
 have dv:=N.div N.k1 N.k2
 have d1:=dv.v1
 have d2:=dv.v2
 have d3:=dv.r1
 have d4:=dv.r2
 have e:=fun g c=> rsp_1 (AT3 par wt d g0 c0 k n mask) d g c
 refine ⟨by show 1≤64;omega,by show 64≤64;omega,by show 2≤256;omega,by show 256≤256;omega,⟨Int.le_refl _,by show (0:Int)≤_;omega⟩,fun g hg=> ?_,fun c _=> ?_,fun c _=> ?_,fun t et=> ?_,fun g c hg _=> ?_⟩
 ·have w:=N.T.wtOk g hg
  have hg' :g < 256:=hg
  show 0≤par g∧par g≤65536∧0≤wt g∧wt g≤65536
  by_cases h0:g=0
  ·have:=N.T.p0
   subst h0
   omega
  ·have:=N.T.parOk g (by omega) hg
   omega
 ·show 0≤upd1 (fun _=> 0) c0 n c∧upd1 (fun _=> 0) c0 n c≤_
  unfold upd1
  split <;> (try dsimp only) <;> omega
 ·show 0≤upd1 (fun _=> (0:Int)) c0 5 c∧upd1 (fun _=> (0:Int)) c0 5 c≤_
  unfold upd1
  split <;> (try dsimp only) <;> omega
 ·cases et
  show (1:Int)≤5∧(5:Int)≤65535∧(0:Int)≤g0∧(g0:Int) < (256:Nat)∧1≤k∧k≤65536∧(0:Int)≤c0∧(c0:Int) < (64:Nat)∧0≤mask∧mask < _∧0≤0+(n * 1048576+0) / k∧0+(n * 1048576+0) / k < _∧0≤(n * 1048576+0) % k∧(n * 1048576+0) % k < _
  omega
 ·have f:=N.fl4b g c hg
  have s:=N.sp3 g c hg
  have w:=N.T.wtOk g hg
  have s1:=s.1.v1
  have s2:=s.1.v2
  have s3:=s.1.r1
  have s4:=s.1.r2
  have e1:((AT4 par wt d g0 c0 k n mask).spots g c).1=((AT3 par wt d g0 c0 k n mask).spots g c).1:=(e g c).1
  have e2:((AT4 par wt d g0 c0 k n mask).spots g c).2.1=((AT3 par wt d g0 c0 k n mask).spots g c).2.1:=(e g c).2
  rw [e1,e2]
  omega
theorem Nums.lv {g:Nat} {m k' :Int} (h:lcm_ (AT4 par wt d g0 c0 k n mask) d (tk3 g0 c0 k n mask) g0 g=some (m,k')):lvr (AT4 par wt d g0 c0 k n mask) (tk3 g0 c0 k n mask) c0 m=(0+(n * 1048576+0) / k',(n * 1048576+0) % k'):=by
 have e:=fun g c=> rsp_1 (AT3 par wt d g0 c0 k n mask) d g c
 rcases lcm_mem N.rok h with ⟨_,rfl,rfl⟩|⟨_,h',e2,e3,e4,rfl,rfl,_,m2,k2,e5⟩
 ·rfl
 ·unfold lvr
  rw [if_neg (by omega),show (65536+(h' :Int) - 65536).toNat=h' from by omega]
  have ht:tkS (AT2 par wt g0 c0 k mask) n d g0 c0 0 h' c0=chg n (0,0,0) (wt h'):=by
   unfold tkS
   rw [if_pos]
   refine ⟨rfl,by omega, ?_⟩
   have e5' :chn par wt d g0 5 k h' =some (m2,k2):=e5
   exact (chn_some d g0 5 k 0 0 h').1 (by rw [e5'];simp)
  show ((rsp _ d h' c0).1,(rsp _ d h' c0).2.1)=_
  rw [(e h' c0).1,(e h' c0).2]
  show ((tkS _ n d g0 c0 0 h' c0).1,(tkS _ n d g0 c0 0 h' c0).2.1)=_
  rw [ht]
  rfl
theorem Nums.qs3 (g c:Nat) (hg:g < 256) (hc:c < 64):tickQ par c0 n d g0 (entQ par wt (fun _ _=> (0,0)) c0 d g0 5 0 0 k (fun _ _=> .e 0 0)) g c=shq (AT4 par wt d g0 c0 k n mask) d (tk3 g0 c0 k n mask) g0 c0 (match chn par wt d g0 5 k g with|some (_,k')=> k' |none=> 0) g c:=by
 rw [tickQ_eq par wt c0 n N.T.parOk d g0 5 k _ g c N.hg N.dep,entQ_chn _ c0 (fun _=> rfl) N.T.parOk d g0 5 k _ g c N.hg N.dep]
 unfold shq
 have h0:=(N.sp3 g c hg).2.2
 by_cases e:c=c0
 ·subst e
  rw [if_pos rfl,if_pos rfl]
  cases hl:chn par wt d g0 5 k g with
  |none=>
   have hl' :lcm_ (AT4 par wt d g0 c k n mask) d (tk3 g0 c k n mask) g0 g=none:=hl
   rw [if_neg (fun h=> h.2 rfl),hl']
   show QSt.e 0 0=QSt.e _ 0
   rw [N.fl4,←N.memb4,memb_nolcm N.rok (.inr hl')]
   show QSt.e 0 0=QSt.e _ 0
   rw [h0]
  |some q=>
   obtain ⟨m,k'⟩:=q
   have hl' :lcm_ (AT4 par wt d g0 c k n mask) d (tk3 g0 c k n mask) g0 g=some (m,k'):=hl
   obtain ⟨p,hp,e1⟩:=memb_lcm N.rok hl'
   rw [if_pos ⟨rfl,by simp⟩,hl']
   show QSt.o (mxI 0 (0+(n * 1048576+0) / k')) k' m (0+(n * 1048576+0) / k') ((n * 1048576+0) % k') k' =QSt.o ((AT4 par wt d g0 c k n mask).spots g c).2.2 k' m (lvr (AT4 par wt d g0 c k n mask) (tk3 g0 c k n mask) c m).1 (lvr (AT4 par wt d g0 c k n mask) (tk3 g0 c k n mask) c m).2 k'
   rw [N.fl4,←N.memb4,hp,N.lv hl']
   show _=QSt.o (mxI _ p.1) k' m _ _ k'
   rw [e1,N.lv hl',h0]
 ·rw [if_neg (fun h=> e h.1),if_neg e,if_neg e,N.fl4,←N.memb4,memb_nolcm N.rok (.inl e)]
  show QSt.e 0 0=QSt.e _ 0
  rw [h0]
theorem Nums.as3 (g c:Nat) (h:g=0∨c≠c0∨lcm_ (AT4 par wt d g0 c0 k n mask) d (tk3 g0 c0 k n mask) g0 g=none):((0:Int),(0:Int))=(((AT4 par wt d g0 c0 k n mask).spots g c).1,((AT4 par wt d g0 c0 k n mask).spots g c).2.1):=by
 have e:=fun g c=> rsp_1 (AT3 par wt d g0 c0 k n mask) d g c
 show _=((rsp _ d g c).1,(rsp _ d g c).2.1)
 rw [(e g c).1,(e g c).2]
 show _=((tkS _ n d g0 c0 0 g c).1,(tkS _ n d g0 c0 0 g c).2.1)
 unfold tkS
 rw [if_neg]
 rintro ⟨h1,h2,h3⟩
 rcases h with h|h|h
 ·omega
 ·exact h h1
 ·exact (chn_some d g0 0 0 5 k g).1 h3 h
theorem Nums.state3 (w:World) (ow:Nat→Own) (x:Nat) (B:SB) (loads:Nat→Int) (wk:Int)
  (h:SAt w ow x B ⟨64,256,0,par,wt,upd1 (fun _=> 0) c0 n,upd1 (fun _=> 0) c0 5,loads,wk,some ⟨5,g0,k,c0,mask,true,0,0,k⟩,tickQ par c0 n d g0 (entQ par wt (fun _ _=> (0,0)) c0 d g0 5 0 0 k (fun _ _=> .e 0 0)),fun _ _=> (0,0)⟩):
  Calls Tryz.prog 25 #[ptr x] w fun e w' => ∃ B' ow',e= .returned (.tuple #[stv B' (AT4 par wt d g0 c0 k n mask), .int .i64 0])∧StAt w' ow' B' (AT4 par wt d g0 c0 k n mask)∧Mod No w w' ∧(∀ b,ow' b≠ .no→w.heap.size≤b)∧256≤B'.gcap:=
 stateA N.rok w ow x B loads wk 0 0 k _ _ (fun g _=> match chn par wt d g0 5 k g with|some (_,k')=> k' |none=> 0) h (fun g c hg hc=> N.qs3 g c hg hc) (fun g c _ _ ho=> N.as3 g c ho)
theorem Nums.ch1 (x:Nat) (m' k' :Int) (h:chn par wt d g0 5 k x=some (m',k')):entQ par wt (fun _ _=> ((0:Int),(0:Int))) c0 d g0 5 0 0 k (fun _ _=> .e 0 0) x c0= .o 0 k' m' 0 0 k' :=by
 rw [entQ_chn _ c0 (fun _=> rfl) N.T.parOk d g0 5 k _ x c0 N.hg N.dep,if_pos rfl,h]
end
end Go.Q
namespace Go.Q
open Go.RowKit Go.Proofs
def below (deep:Bool) (i:Nat):Bool:=deep && decide (0 < i) && decide (i % 4≠1)
def parW (deep:Bool) (i:Nat):Int:=if below deep i=true then (i:Int) - 1 else 0
def wtW (i:Nat):Int:=1+i
theorem depW (deep:Bool):∀ g:Nat,∃ d,d≤4∧Dep (parW deep) g d:=by
 have h0:Dep (parW deep) 0 0:= .root
 have st:∀ g d:Nat,0 < g→below deep g=false→Dep (parW deep) g 1:=fun g d h e=> .up (p:=0) h (by unfold parW;rw [e];rfl) .root
 have up:∀ g d:Nat,below deep (g+1)=true→Dep (parW deep) g d→Dep (parW deep) (g+1) (d+1):=fun g d e h=> .up (p:=g) (by omega) (by unfold parW;rw [if_pos e];omega) h
 cases deep with
 |false=>
  intro g
  by_cases h:g=0
  ·subst h;exact ⟨0,by omega,h0⟩
  ·exact ⟨1,by omega,st g 0 (by omega) (by simp [below])⟩
 |true=>
  have key:∀ j:Nat,Dep (parW true) (4 * j+1) 1∧Dep (parW true) (4 * j+2) 2∧Dep (parW true) (4 * j+3) 3∧Dep (parW true) (4 * j+4) 4:=fun j=> by
   have b1:below true (4 * j+1)=false:=by
    unfold below
    rw [show decide ((4 * j+1) % 4≠1)=false from by rw [decide_eq_false_iff_not];omega]
    simp
   have b2:∀ r,r=2∨r=3∨r=4→below true (4 * j+r)=true:=fun r hr=> by
    unfold below
    rw [show decide ((4 * j+r) % 4≠1)=true from by rw [decide_eq_true_iff];omega,show decide (0 < 4 * j+r)=true from by rw [decide_eq_true_iff];omega]
    rfl
   have d1:=st (4 * j+1) 0 (by omega) b1
   have d2:=up (4 * j+1) 1 (b2 2 (by omega)) d1
   have d3:=up (4 * j+2) 2 (b2 3 (by omega)) d2
   have d4:=up (4 * j+3) 3 (b2 4 (by omega)) d3
   exact ⟨d1,d2,d3,d4⟩
  intro g
  by_cases h:g=0
  ·subst h;exact ⟨0,by omega,h0⟩
  ·obtain ⟨a1,a2,a3,a4⟩:=key ((g - 1) / 4)
   have hm:=Nat.div_add_mod (g - 1) 4
   have hl:=Nat.mod_lt (g - 1) (by decide:4 > 0)
   generalize (g - 1) / 4=j at *
   rcases (by omega:g=4 * j+1∨g=4 * j+2∨g=4 * j+3∨g=4 * j+4) with e|e|e|e
   ·rw [e];exact ⟨1,by omega,a1⟩
   ·rw [e];exact ⟨2,by omega,a2⟩
   ·rw [e];exact ⟨3,by omega,a3⟩
   ·rw [e];exact ⟨4,by omega,a4⟩
theorem treeW (deep:Bool):Tree 256 (parW deep) wtW where
 g1:=by omega
 g2:=by omega
 p0:=by unfold parW;rw [if_neg];simp [below]
 w0:=by unfold wtW;rfl
 parOk:=fun g h _=> by
  unfold parW
  split <;> omega
 wtOk:=fun g h=> by unfold wtW;omega
 dep:=fun g _=> depW deep g
theorem bits11:bits BinOp.and IntKind.u64 1 1=1:=by decide
theorem numsW (deep:Bool) (g0 c0 wn:Nat) (hg:g0 < 256) (hc:c0 < 64) (hw:wn < 256):∃ d,Nums (parW deep) wtW d g0 c0 (1+wn) (1000+wn) ((2 ^ c0:Nat):Int):=by
 obtain ⟨d,h4,hd⟩:=depW deep g0
 have hp:0 < 2 ^ c0:=Nat.pos_of_ne_zero (by simp)
 have hlt:2 ^ c0 < 2 ^ 64:=Nat.pow_lt_pow_right (by omega) hc
 have e:((2 ^ c0:Nat):Int) / 2 ^ c0=1:=by
  rw [show ((2:Int) ^ c0)=((2 ^ c0:Nat):Int) from by simp]
  exact Int.ediv_self (by omega)
 exact ⟨d,treeW deep,hd,h4,hg,hc,by omega,by omega,by omega,by omega,by omega,by omega,by rw [e];exact bits11,by rw [e];rfl⟩
end Go.Q
namespace Go.Q
open Go.RowKit Go.Proofs
theorem own_full {w:World} {base:Nat} {e:TypeId} {size g cap n:Nat} {xs:List Value} (h:w.ownsRow base e size (.slice (some ⟨g,0,none⟩) n cap) n xs):∃ F,Row w g (cap * size) F∧∀ i,i < n * size→F i=fl xs i:=by
 obtain ⟨h0,⟨h1,_⟩|⟨g',cap',cur,h1,_,hb,hn,_,hs,ht⟩⟩:=h
 ·cases h1
 ·simp only [Value.slice.injEq,Option.some.injEq,Addr.mk.injEq,and_true,true_and] at h1
  obtain ⟨rfl,rfl⟩:=h1
  refine ⟨fun i=> cur.getD i undef,⟨cur,e,hb,by omega,fun i hi=> by simp [Array.getD,show i < cur.size by omega]⟩,fun i hi=> ?_⟩
  have hnc:n * size≤cap * size:=Nat.mul_le_mul_right _ hn
  rw [←ht]
  unfold fl
  simp only [Array.getD_eq_getD_getElem?,List.getD_eq_getElem?_getD,List.getElem?_take,hi,if_true,Array.getElem?_toList]
set_option maxRecDepth 100000 in
theorem grow_ok (w:World) (base u:Nat) (v:Value) (f:Nat→Nat→Int) (hO:w.ownsRow base 278 12 v u (slots f u)) (hu:u < 4) (hB:base≤w.heap.size):
  Calls Tryz.prog 166 #[v, .int .i64 1] w fun e w' => ∃ g cp,e= .returned (slc g u cp)∧u+1≤cp∧base≤g∧Mod No w w' ∧∃ F,Row w' g (cp * 12) F∧∀ i,i < u * 12→F i=evs f i:=by
 obtain ⟨i0,hi,hz0,hz1,hz2⟩:=info_parts Tryz.infoSlot
 have hE:∀ i,i < u * 12→fl (slots f u) i=evs f i:=fun i hi=> slots_get f u i hi
 rcases id hO with ⟨_,⟨rfl,rfl⟩|⟨g,cap,cur,rfl,hbg,_,hnc,hml,_,_⟩⟩
 ·go_enter Tryz.func166,Tryz.ntmps166
  obtain ⟨g,cp,w1,hrun,hg,hcp,hm,F',hR⟩:=run_app_nil1 w 195 3 195 278 i0 _ 12 88 Tryz.underlying195 Tryz.underlying3 hi hz0 hz1 hz2 rfl (by decide) (by decide)
  have hR' :=hR.lt
  go_wp2_with (at_builtin;refine Lib.wpList_append_run _ rfl _ _ _ _ rfl _ _ rfl rfl _ _ hrun ?_)
  go_ret
  exact ⟨g,cp,rfl,hcp,by omega,hm,F',hR,fun i hi=> by omega⟩
 ·obtain ⟨F0,hF0,hF1⟩:=own_full hO
  have i0' :(u:Int) < 4:=by omega
  by_cases hc:u < cap
  ·have i1:(u:Int) < cap:=by omega
   have i2:(0:Int)≤u:=by omega
   have i3:(cap:Int)≤9223372036854775807:=by have:cap≤maxLen:=hml;simp only [maxLen] at this;omega
   go_enter Tryz.func166,Tryz.ntmps166
   go_wp2
   go_ret
   exact ⟨g,cap,rfl,hc,hbg,Mod.refl No w,F0,hF0,fun i hi=> by rw [hF1 i hi,hE i hi]⟩
  ·obtain rfl:cap=u:=by omega
   have i1:(0:Int)≤cap:=by omega
   obtain ⟨g2,cp,w1,hrun,hg,hcp,hm,F',hR,hF'⟩:=run_app_one w 195 3 195 278 i0 _ 12 88 Tryz.underlying195 Tryz.underlying3 hi hz0 hz1 hz2 rfl (by decide) (by decide) g cap F0 (by omega) hF0
   go_enter Tryz.func166,Tryz.ntmps166
   go_wp2_with (at_builtin;refine Lib.wpList_append_run _ rfl _ _ _ _ rfl _ _ rfl rfl _ _ hrun ?_)
   go_ret
   exact ⟨g2,cp,rfl,hcp,by omega,hm,F',hR,fun i hi=> by rw [hF' i hi,hF1 i hi,hE i hi]⟩
end Go.Q
