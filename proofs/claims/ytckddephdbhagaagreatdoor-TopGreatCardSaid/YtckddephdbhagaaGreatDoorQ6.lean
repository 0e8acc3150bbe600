/- A part of the proof that TopGreat answers true: what some of the functions on its road compute. -/
import Derived.Deep.DeepCutAuto
import Derived.Deep.CutBlock
import Derived.Test.YtckddephdbhagaaGreatDoorQ0
import Derived.Test.YtckddephdbhagaaGreatDoorQ3
import Derived.Test.YtckddephdbhagaaGreatDoorQ5
set_option linter.unusedVariables false
set_option linter.unusedSimpArgs false
namespace Go.Q
open Go.RowKit Go.Proofs
def mmb (A:ASt) (d g c k:Nat):Option (Int×Int×Int):=match memb A d g c with
 |none=> none
 |some p=> if p.2.1=0∨p.2.2 < k then some p else none
theorem MemAt.mod {w w' :World} {v:Value} {p:Option (Int×Int×Int)} (h:MemAt w v p) (hm:Mod No w w'):MemAt w' v p:=by
 cases p with
 |none=> exact h
 |some p=>
  obtain ⟨b,c,h1,h2⟩:=h
  exact ⟨b,c,h1,h2.mod hm (fun h=> h)⟩
section
variable {A:ASt} {d:Nat}
theorem mmb_last (h:One1 A d) (g c:Nat):mmb A d g c A.G=memb A d g c:=by
 unfold mmb
 cases hm:memb A d g c with
 |none=> rfl
 |some p=>
  simp only
  rcases memb_inv h hm with ⟨t,_,_,_,rfl⟩|⟨x,_,hx,_,_,_,rfl⟩
  ·simp
  ·simp only
   rw [if_pos (by right;omega)]
theorem mmb_one (h:One1 A d) (g c:Nat):mmb A d g c 1=match A.task with
  |none=> none
  |some t=> if t.group=g∧t.cpu=c then some (t.v,0,t.id) else none:=by
 cases ht:A.task with
 |none=> simp [mmb,memb,ht]
 |some t=>
  simp only
  by_cases hh:t.group=g∧t.cpu=c
  ·rw [if_pos hh]
   unfold mmb
   rw [memb_task h ht hh.1 hh.2]
   simp
  ·rw [if_neg hh]
   unfold mmb
   cases hm:memb A d g c with
   |none=> rfl
   |some p=>
    simp only
    rcases memb_inv h hm with ⟨t',ht',a,b,rfl⟩|⟨x,hx0,hx,_,_,_,rfl⟩
    ·rw [ht] at ht';obtain rfl:=Option.some.inj ht'
     exact absurd ⟨a,b⟩ hh
    ·simp only
     rw [if_neg (by omega)]
theorem mmb_skip (h:One1 A d) (g c k:Nat) (hk:0 < k) (hn:A.par k≠g∨memb A d k c=none):mmb A d g c (k+1)=mmb A d g c k:=by
 unfold mmb
 cases hm:memb A d g c with
 |none=> rfl
 |some p=>
  simp only
  rcases memb_inv h hm with ⟨t,_,_,_,rfl⟩|⟨x,hx0,hx,hp,_,hne,rfl⟩
  ·simp
  ·have:x≠k:=by
    rintro rfl
    rcases hn with hn|hn
    ·exact hn hp
    ·exact hne hn
   simp only
   by_cases hlt:x < k
   ·rw [if_pos (by right;omega),if_pos (by right;omega)]
   ·rw [if_neg (by omega),if_neg (by omega)]
theorem mmb_hit (h:One1 A d) (g c k:Nat) (hk:0 < k) (hkG:k < A.G) (hp:A.par k=g) (hm:memb A d k c≠none):mmb A d g c k=none∧mmb A d g c (k+1)=some ((A.spots k c).1,1,(k:Int)):=by
 have:=memb_up h hk hkG hp hm
 unfold mmb
 rw [this]
 constructor
 ·simp
 ·simp;omega
set_option maxRecDepth 100000 in
set_option maxHeartbeats 2000000 in
theorem members_ok (h:One1 A d):∀ (n g c:Nat) (w:World) (ow:Nat→SOwn) (B:STB),A.G - g≤n→g < A.G→c < A.C→StAt w ow B A→
  Calls Tryz.prog 135 #[stv B A, .int .i64 g, .int .i64 c] w fun e w' => ∃ v,e= .returned v∧MemAt w' v (memb A d g c)∧Below w.heap.size w w' :=by
 intro n
 induction n with
 |zero=> intro g c w ow B hn hg;omega
 |succ n ih=>
  intro g c w ow B hn hg hc hs
  have HI:=Lib.hid (And.intro ih h)
  have hG:=h.T.g2
  clear ih h
  have i0:(0:Int)≤g:=by omega
  have i1:(0:Int)≤c:=by omega
  have i2:(c:Int) < A.C:=by omega
  go_enter Tryz.func135,Tryz.ntmps135
  go_upto_block 0 with fail
  refine wp_world (fun V=> StAt V ow B A∧Mod No w V∧Row V w.heap.size 7 (fl [.int .i64 A.C, .int .u64 A.cr,slc B.gb A.G B.gcap,slc B.cl A.C B.ccap,slc B.cu A.C B.ucap,B.tv,slc B.so A.G B.scap])) ?_ ?_
  ·have m:=(Mod.refl No w).alloc (.cells #[.int .i64 A.C, .int .u64 A.cr,slc B.gb A.G B.gcap,slc B.cl A.C B.ccap,slc B.cu A.C B.ucap,B.tv,slc B.so A.G B.scap] 48)
   exact ⟨hs.no m,m,row_newL w [_,_,_,_,_,_,_] _⟩
  intro V ⟨S1,m1,X1⟩
  go_cut [7] (fun s7 wx=> MemAt wx s7 (mmb A d g c 1)∧Mod No w wx∧Row wx w.heap.size 7 (fl [.int .i64 A.C, .int .u64 A.cr,slc B.gb A.G B.gcap,slc B.cl A.C B.ccap,slc B.cu A.C B.ucap,B.tv,slc B.so A.G B.scap]))
  case first=>
   have hX:=mmb_one HI.out.2 g c
   cases hA:A.task with
   |none=>
    obtain ⟨ta,tc,htv⟩:=S1.t0 hA
    rw [hA] at hX
    simp only at hX
    rw [htv] at X1
    have x5:=X1.cL 5 _ (by have:=X1.lt;omega) rfl
    have lX:=X1.lt
    go_wp2
    go_loopw [8,7] (fun s8 s7 wr=> s8= .int .i64 0∧s7= .slice none 0 0∧wr=V) (fun _ _ _=> 0)
    case atStart=> exact ⟨rfl,rfl,rfl⟩
    case round=>
     obtain ⟨rfl,rfl,rfl⟩:=hrel
     go_wp2_with fail
     go_meet
     rw [hX,htv]
     exact ⟨rfl,m1,X1⟩
   |some t=>
    obtain ⟨tb,tc,htv,_,RT⟩:=S1.t1 hA
    rw [hA] at hX
    simp only at hX
    rw [htv] at X1
    have hrd:t.ready=true:=(HI.out.2.ok t hA).1
    have hX' :=Lib.hid hX
    clear hX
    go_wp2
    go_loopw [8,7] (fun s8 s7 wr=> ∃ k:Nat,s8= .int .i64 k∧k≤1∧MemAt wr s7 (if k=0 then none else mmb A d g c 1)∧Mod No V wr) (fun s8 _ _=> 1 - (RowKit.intOf s8).toNat)
    case atStart=> exact ⟨0,rfl,by omega,rfl,Mod.refl _ _⟩
    case round=>
     obtain ⟨wk,rfl⟩:∃ W,W=wr:=⟨wr,rfl⟩
     obtain ⟨k,rfl,hk,hM,hmod⟩:=hrel
     have X:=X1.mod hmod (fun h=> h)
     have R:=RT.mod hmod (fun h=> h)
     have lX:=X.lt
     have lR:=R.lt
     have x5:=X.cL 5 _ (by omega) rfl
     have lw:w.heap.size≤wk.heap.size:=by have:=m1.size;have:=hmod.size;omega
     by_cases hk0:k=0
     ·subst hk0
      simp only [if_true,MemAt] at hM
      subst hM
      have q0:wk.cell? ⟨tb,0,none⟩=some (.int .i64 t.id):=R.cL 0 _ (by omega) rfl
      have q1:wk.cell? ⟨tb,1,none⟩=some (.int .i64 t.group):=R.cL 1 _ (by omega) rfl
      have q2:wk.cell? ⟨tb,2,none⟩=some (.int .i64 t.weight):=R.cL 2 _ (by omega) rfl
      have q3:wk.cell? ⟨tb,3,none⟩=some (.int .i64 t.cpu):=R.cL 3 _ (by omega) rfl
      have q4:wk.cell? ⟨tb,4,none⟩=some (.int .u64 t.mask):=R.cL 4 _ (by omega) rfl
      have q5:wk.cell? ⟨tb,5,none⟩=some (.bool true):=by have:=R.cL 5 _ (by omega) rfl;rw [this];exact congrArg (fun b=> some (Value.bool b)) hrd
      have q6:wk.cell? ⟨tb,6,none⟩=some (.int .u64 t.v):=R.cL 6 _ (by omega) rfl
      have q7:wk.cell? ⟨tb,7,none⟩=some (.int .u32 t.r):=R.cL 7 _ (by omega) rfl
      by_cases hgc:t.group=g∧t.cpu=c
      ·have e1:(t.group==(g:Int))=true:=by simp [hgc.1]
       have e2:(t.cpu==(c:Int))=true:=by simp [hgc.2]
       have hm1:=hX'.out
       rw [if_pos hgc] at hm1
       have hm1' :=Lib.hid hm1
       have hgc' :=Lib.hid hgc
       clear hgc hm1
       go_wp2_with (at_builtin;go_must (refine wpList_app_c 231 _ 3 24 Tryz.infoMember rfl _ _ 228 rfl Tryz.underlying228 rfl (by decide) (by decide) [.int .u64 t.v, .int .i64 0, .int .i64 t.id] rfl (by simp [Value.oneCell']) w.heap.size (.slice none 0 0) 0 [] _ _ rfl rfl ?_ ?_ ?_ ?_ ?_);go_must (· simp;omega);go_must (· omega);go_must (· exact World.ownsRow_nil _ _ _ _);go_must (· exact row_newL' _ _ [_,_,_] _ (by simp));go_must (intro gt ct wA hA2))
       have mA:Mod No wk wA:=Mod.trans (((Mod.refl No wk).alloc _).alloc _) (hA2.mod.mono (fun b _ h=> by simp [Value.ownBlock] at h)) (fun _ _ h=> h)
       have RA:=own_row hA2.own
       refine ⟨⟨1,by go_num,by omega, ?_,Mod.trans hmod mA (fun _ _ h=> h)⟩,by simp [RowKit.intOf]⟩
       rw [if_neg (by omega),hm1'.out]
       exact ⟨gt,ct,rfl,RA⟩
      ·have hm1:=hX'.out
       rw [if_neg hgc] at hm1
       have hm1' :=Lib.hid hm1
       clear hm1
       by_cases hg1:t.group=g
       ·have e1:(t.group==(g:Int))=true:=by simp [hg1]
        have e2:(t.cpu==(c:Int))=false:=by simp;intro h2;exact hgc ⟨hg1,h2⟩
        clear hg1 hgc
        go_wp2
        refine ⟨⟨1,by go_num,by omega, ?_,by (repeat first|(with_reducible exact hmod)|(with_reducible refine Mod.alloc ?_ _)|(with_reducible refine Mod.drew ?_)|(with_reducible refine Mod.drewN ?_ _)|(with_reducible refine Mod.sc ?_))⟩,by simp [RowKit.intOf]⟩
        rw [if_neg (by omega),hm1'.out]
        rfl
       ·have e1:(t.group==(g:Int))=false:=by simp;exact hg1
        clear hg1 hgc
        go_wp2
        refine ⟨⟨1,by go_num,by omega, ?_,by (repeat first|(with_reducible exact hmod)|(with_reducible refine Mod.alloc ?_ _)|(with_reducible refine Mod.drew ?_)|(with_reducible refine Mod.drewN ?_ _)|(with_reducible refine Mod.sc ?_))⟩,by simp [RowKit.intOf]⟩
        rw [if_neg (by omega),hm1'.out]
        rfl
     ·obtain rfl:k=1:=by omega
      simp only [if_neg (show ¬(1:Nat)=0 by omega)] at hM
      go_wp2_with fail
      go_meet
      rw [htv]
      exact ⟨hM,Mod.trans m1 hmod (fun _ _ h=> h),X⟩
  case rest=>
   obtain ⟨hM1,mx,Xx⟩:=hcut
   go_wp2
   go_loopw [10,7] (fun s10 s7 wr=> ∃ k:Nat,s10= .int .i64 k∧1≤k∧k≤A.G∧MemAt wr s7 (mmb A d g c k)∧Mod No w wr∧Row wr w.heap.size 7 (fl [.int .i64 A.C, .int .u64 A.cr,slc B.gb A.G B.gcap,slc B.cl A.C B.ccap,slc B.cu A.C B.ucap,B.tv,slc B.so A.G B.scap])) (fun s10 _ _=> A.G - (RowKit.intOf s10).toNat)
   case atStart=> exact ⟨1,rfl,by omega,by omega,hM1,mx,Xx⟩
   case round=>
    obtain ⟨wk,rfl⟩:∃ W,W=wr:=⟨wr,rfl⟩
    obtain ⟨k,rfl,hk1,hkG,hM,hmod,X⟩:=hrel
    clear hM1 mx Xx
    have S:=hs.no hmod
    have lX:=X.lt
    have x2:=X.cL 2 _ (by omega) rfl
    have x6:=X.cL 6 _ (by omega) rfl
    by_cases hk:k < A.G
    ·have j0:(0:Int)≤k:=by omega
     have j1:(k:Int) < A.G:=by omega
     obtain ⟨p0,p1⟩:=S.gp hk
     by_cases hp:A.par k=g
     ·have e1:(A.par k==(g:Int))=true:=by simp [hp]
      have x0:=X.cL 0 _ (by omega) rfl
      have x1:=X.cL 1 _ (by omega) rfl
      have x3:=X.cL 3 _ (by omega) rfl
      have x4:=X.cL 4 _ (by omega) rfl
      have x5:=X.cL 5 _ (by omega) rfl
      have hgk:g < k:=by have:=(HI.out.2.T.parOk k (by omega) hk).2;omega
      have HP:=Lib.hid hp
      clear hp
      go_wp2_with fail
      refine (HI.out.1 k c wk ow B (by omega) hk hc S).mono ?_;rintro e w5 ⟨v5,rfl,hM5,hb5⟩
      have m5:Mod No w w5:=Mod.trans hmod (Mod.of_below hb5 No) (fun _ _ h=> h)
      have X5:=X.mod (Mod.of_below hb5 No) (fun h=> h)
      have hM' :=hM.mod (Mod.of_below hb5 No)
      have S5:=hs.no m5
      have lX5:=X5.lt
      have y6:=X5.cL 6 _ (by omega) rfl
      obtain ⟨s0,s1,s2,s3⟩:=S5.sp hk hc
      clear x0 x1 x2 x3 x4 x5 x6 p0 p1
      cases hm5:memb A d k c with
      |none=>
       rw [hm5] at hM5
       simp only [MemAt] at hM5
       subst hM5
       have hE:=Lib.hid (mmb_skip HI.out.2 g c k (by omega) (.inr hm5))
       clear hm5
       go_wp2
       refine ⟨⟨k+1,by go_num,by omega,by omega,by rw [hE.out];exact hM',m5,X5⟩,by simp only [RowKit.intOf];omega⟩
      |some p5=>
       rw [hm5] at hM5
       obtain ⟨b5,c5,rfl,R5⟩:=hM5
       have hE:=Lib.hid (mmb_hit HI.out.2 g c k (by omega) hk HP.out (by rw [hm5];simp))
       rw [hE.out.1] at hM'
       simp only [MemAt] at hM'
       subst hM'
       clear hm5
       have lw5:w.heap.size≤w5.heap.size:=m5.size
       go_wp2_with (at_builtin;go_must (refine wpList_app_c 231 _ 3 24 Tryz.infoMember rfl _ _ 228 rfl Tryz.underlying228 rfl (by decide) (by decide) [.int .u64 (A.spots k c).1, .int .i64 1, .int .i64 k] rfl (by simp [Value.oneCell']) w.heap.size (.slice none 0 0) 0 [] _ _ rfl rfl ?_ ?_ ?_ ?_ ?_);go_must (· simp;omega);go_must (· omega);go_must (· exact World.ownsRow_nil _ _ _ _);go_must (· exact row_newL' _ _ [_,_,_] _ (by simp));go_must (intro gt ct wA hA2))
       have mA:Mod No w wA:=Mod.trans (m5.alloc _) (hA2.mod.mono (fun b _ h=> by simp [Value.ownBlock] at h)) (fun _ _ h=> h)
       have m5A:Mod No w5 wA:=Mod.trans ((Mod.refl No w5).alloc _) (hA2.mod.mono (fun b _ h=> by simp [Value.ownBlock] at h)) (fun _ _ h=> h)
       have RA:=own_row hA2.own
       refine ⟨⟨k+1,by go_num,by omega,by omega,by rw [hE.out.2];exact ⟨gt,ct,rfl,RA⟩,mA,X5.mod m5A (fun h=> h)⟩,by simp only [RowKit.intOf];omega⟩
     ·have e1:(A.par k==(g:Int))=false:=by simp;exact hp
      have hE:=Lib.hid (mmb_skip HI.out.2 g c k (by omega) (.inl hp))
      clear hp
      go_wp2
      refine ⟨⟨k+1,by go_num,by omega,by omega,by rw [hE.out];exact hM,hmod,X⟩,by simp only [RowKit.intOf];omega⟩
    ·obtain rfl:k=A.G:=by omega
     have j1:(A.G:Int)≤A.G:=by omega
     have hE:=Lib.hid (mmb_last HI.out.2 g c)
     go_wp2
     go_ret
     exact ⟨_,rfl,by rw [←hE.out];exact hM,Mod.below hmod⟩
end
end Go.Q
namespace Go.Q
open Go.RowKit Go.Proofs
theorem r_weight (n:Int) (h1:1≤n) (h2:n≤65536) (w:World):Calls Tryz.prog 127 #[.int .i64 n] w fun e w' => e= .returned (.bool true)∧w=w' :=by
 go_enter Tryz.func127,Tryz.ntmps127
 go_wp2
 go_ret
 exact ⟨by simp,rfl⟩
theorem r_ticks (n:Int) (h1:0≤n) (h2:n≤4294967295) (w:World):Calls Tryz.prog 204 #[.int .i64 n] w fun e w' => e= .returned (.bool true)∧w=w' :=by
 go_enter Tryz.func204,Tryz.ntmps204
 go_wp2
 go_ret
 exact ⟨by simp,rfl⟩
set_option maxRecDepth 100000 in
theorem r_right (v r k:Int) (h:REnt v r k) (w:World):Calls Tryz.prog 203 #[.agg #[.int .u64 v, .int .u32 r, .int .u32 k]] w fun e w' => e= .returned (.bool true)∧Below w.heap.size w w' :=by
 obtain ⟨h1,h2,h3,h4,h5,h6⟩:=h
 have e1:(v==18446744073709551615)=false:=by simp;omega
 go_enter Tryz.func203,Tryz.ntmps203
 go_wp2
 go_ret
 exact ⟨by simp,belowX⟩
set_option maxRecDepth 100000 in
theorem r_charged (v r k n:Int) (h:REnt v r k) (h1:0≤n) (h2:n≤1000000) (h3:v≤1000000000000000) (w:World):
  Calls Tryz.prog 205 #[.agg #[.int .u64 v, .int .u32 r, .int .u32 k], .int .i64 n] w fun e w' => e= .returned (.agg #[.int .u64 (v+(n * 1048576+r) / k), .int .u32 ((n * 1048576+r) % k), .int .u32 k])∧Below w.heap.size w w' :=by
 obtain ⟨g1,g2,g3,g4,g5,g6⟩:=h
 have hk:k≠0:=by omega
 have hd0:0≤(n * 1048576+r) / k:=Int.ediv_nonneg (by omega) (by omega)
 have hd1:(n * 1048576+r) / k≤n * 1048576+r:=Int.ediv_le_self _ (by omega)
 have hm0:0≤(n * 1048576+r) % k:=Int.emod_nonneg _ hk
 have hm1:(n * 1048576+r) % k < k:=Int.emod_lt_of_pos _ (by omega)
 have he:(v+(n * 1048576+r) / k==18446744073709551615)=false:=by simp;omega
 have hlt:¬(v+(n * 1048576+r) / k < v):=by omega
 have hwk:IntKind.i64.wrap k=k:=by rw [IntKind.wrap_i64];omega
 have hw2:IntKind.u32.wrap ((n * 1048576+r).tmod k)=(n * 1048576+r) % k:=by rw [Int.tmod_eq_emod_of_nonneg (by omega),IntKind.wrap_u32];exact Int.emod_eq_of_lt hm0 (by omega)
 go_enter Tryz.func205,Tryz.ntmps205
 go_upto_region 6 with fail
 refine wp_region_chain (fun w' => w'.cell? ⟨w.heap.size,2,none⟩=some (.int .u32 k)) [10] [] [10] (rds [0,1,2,3,4,5,6,7,8,9] (.ef 10 .nil)) (by kernel_rfl) (by kernel_rfl) (by go_simp) ?_
 intro O hO
 have HO:=Lib.hid hO
 clear hO
 simp only [rds]
 (repeat (first|(refine lxp HO (v:=?_) (fun w'=> ?_) ?_;rotate_left;(focus (go_simp;(try exact rfl);done));try go_simp)|(refine lxr HO (v:=?_) (fun w' hC'=> ?_) ?_;rotate_left;(focus (obtain c1:=hC';go_simp;(try exact rfl);done));try go_simp)|(refine lxo HO ?_;try go_simp)))
 (refine lxe HO (fun K hK=> ?_);go_simp;refine hK _ _ (.inl (by rfl)) ?_;clear hK K)
 refine wpL_nil ?_
 go_wp2
 exact bodyPost_ret (v:= .agg #[.int .u64 (v+(n * 1048576+r) / k), .int .u32 ((n * 1048576+r) % k), .int .u32 k]) (by simp [results,Tryz.results205,go_sem, *]) rfl ⟨rfl,belowX⟩
set_option maxRecDepth 100000 in
theorem r_add (v r k n:Int) (h:REnt v r k) (h1:0≤n) (h2:n≤1000000) (h3:v≤1000000000000000) (w:World):
  Calls Tryz.prog 134 #[.agg #[.int .u64 v, .int .u32 r, .int .u32 k], .int .i64 n] w fun e w' => e= .returned (.tuple #[.agg #[.int .u64 (v+(n * 1048576+r) / k), .int .u32 ((n * 1048576+r) % k), .int .u32 k], .int .i64 0])∧Below w.heap.size w w' :=by
 go_enter Tryz.func134,Tryz.ntmps134
 go_wp2_with fail
 refine (r_right v r k h _).mono ?_;rintro e w1 ⟨rfl,hb1⟩
 have R1:Row w1 w.heap.size 3 (fl [.int .u64 v, .int .u32 r, .int .u32 k]):=Row.below ((row_newL w [_,_,_] _).alloc _) hb1 (by simp;omega)
 have Z1:Row w1 (w.heap.size+1) 3 (fl [.int .u64 0, .int .u32 0, .int .u32 0]):=Row.below (row_newL' _ _ [_,_,_] _ (by simp)) hb1 (by simp)
 have m1:Mod No w w1:=Mod.trans (((Mod.refl No w).alloc _).alloc _) (Mod.of_below hb1 No) (fun _ _ h=> h)
 have lR:=R1.lt
 have lZ:=Z1.lt
 have a0:=R1.cL 0 _ (by omega) rfl
 have a1:=R1.cL 1 _ (by omega) rfl
 have a2:=R1.cL 2 _ (by omega) rfl
 go_wp2_with fail
 refine (r_ticks n h1 (by omega) _).mono ?_;rintro e w2 ⟨rfl,rfl⟩
 go_wp2_with fail
 refine (r_charged v r k n h h1 h2 h3 _).mono ?_;rintro e w3 ⟨rfl,hb3⟩
 have Z3:=Z1.below hb3 lZ
 have m3:Mod No w w3:=Mod.trans m1 (Mod.of_below hb3 No) (fun _ _ h=> h)
 have b0:=Z3.cL 0 _ (by have:=Z3.lt;omega) rfl
 have b1:=Z3.cL 1 _ (by have:=Z3.lt;omega) rfl
 have b2:=Z3.cL 2 _ (by have:=Z3.lt;omega) rfl
 have f0:=Z3.free 0
 have f1:=Z3.free 1
 have f2:=Z3.free 2
 have lZ3:=Z3.lt
 go_wp2
 exact bodyPost_ret (v:= .tuple #[.agg #[.int .u64 (v+(n * 1048576+r) / k), .int .u32 ((n * 1048576+r) % k), .int .u32 k], .int .i64 0]) (by simp [results,Tryz.results134,go_sem, *]) rfl ⟨rfl,Mod.below (by (repeat first|(with_reducible exact m3)|(with_reducible refine Mod.alloc ?_ _)|(with_reducible refine Mod.drew ?_)|(with_reducible refine Mod.drewN ?_ _)|(with_reducible refine Mod.sc ?_)))⟩
set_option maxRecDepth 100000 in
theorem r_entity (v r k:Int) (h1:1≤k) (h2:k≤65536) (w:World):Calls Tryz.prog 133 #[.int .u64 v, .int .u32 r, .int .i64 k] w fun e w' => e= .returned (.agg #[.int .u64 v, .int .u32 r, .int .u32 k])∧Below w.heap.size w w' :=by
 go_enter Tryz.func133,Tryz.ntmps133
 go_wp2
 exact bodyPost_ret (v:= .agg #[.int .u64 v, .int .u32 r, .int .u32 k]) (by simp [results,Tryz.results133,go_sem]) rfl ⟨rfl,belowX⟩
set_option maxRecDepth 100000 in
theorem r_woken (v r k cr:Int) (h1:0≤v) (h2:0≤cr) (w:World):Calls Tryz.prog 132 #[.agg #[.int .u64 v, .int .u32 r, .int .u32 k], .int .u64 0, .int .u64 cr] w fun e w' => e= .returned (.agg #[.int .u64 v, .int .u32 r, .int .u32 k])∧Below w.heap.size w w' :=by
 go_enter Tryz.func132,Tryz.ntmps132
 go_wp2
 exact bodyPost_ret (v:= .agg #[.int .u64 v, .int .u32 r, .int .u32 k]) (by simp [results,Tryz.results132,go_sem]) rfl ⟨rfl,belowX⟩
set_option maxRecDepth 100000 in
theorem r_wide (m:Int) (w:World):Calls Tryz.prog 128 #[.int .u64 m, .int .i64 64] w fun e w' => e= .returned (.bool false)∧w=w' :=by
 go_enter Tryz.func128,Tryz.ntmps128
 go_wp2
 go_loopw [5] (fun v wr=> v= .int .i64 64∧wr=w) (fun _ _=> 0)
 case atStart=> exact ⟨rfl,rfl⟩
 case round=>
  obtain ⟨rfl,rfl⟩:=hrel
  go_wp2
  go_ret
  exact ⟨rfl,rfl⟩
set_option maxRecDepth 100000 in
theorem r_least (b c:Nat) (p q r:Int) (w:World) (hr:Row w b 3 (fl [.int .u64 p, .int .i64 q, .int .i64 r])):Calls Tryz.prog 136 #[slc b 1 c] w fun e w' => e= .returned (.agg #[.int .u64 p, .int .i64 q, .int .i64 r])∧Below w.heap.size w w' :=by
 have c0:=hr.cL 0 _ (by omega) rfl
 have c1:=hr.cL 1 _ (by omega) rfl
 have c2:=hr.cL 2 _ (by omega) rfl
 have lb:=hr.lt
 go_enter Tryz.func136,Tryz.ntmps136
 go_wp2
 go_loopw [4] (fun v wr=> v= .int .i64 1∧wr=(w.alloc (.cells #[.int .u64 0, .int .i64 0, .int .i64 0] 231)).alloc (.cells #[.int .u64 p, .int .i64 q, .int .i64 r] 231)) (fun _ _=> 0)
 case atStart=> exact ⟨rfl,rfl⟩
 case round=>
  obtain ⟨rfl,rfl⟩:=hrel
  go_wp2
  exact bodyPost_ret (v:= .agg #[.int .u64 p, .int .i64 q, .int .i64 r]) (by simp [results,Tryz.results136,go_sem]) rfl ⟨rfl,belowX⟩
set_option maxRecDepth 100000 in
theorem r_put (id g wt cpu m v r v' r' k' :Int) (rd:Bool) (h1:1≤k') (h2:k' ≤65536) (w:World):Calls Tryz.prog 131 #[.agg #[.int .i64 id, .int .i64 g, .int .i64 wt, .int .i64 cpu, .int .u64 m, .bool rd, .int .u64 v, .int .u32 r], .agg #[.int .u64 v', .int .u32 r', .int .u32 k']] w fun e w' =>
  e= .returned (.agg #[.int .i64 id, .int .i64 g, .int .i64 k', .int .i64 cpu, .int .u64 m, .bool rd, .int .u64 v', .int .u32 r'])∧Below w.heap.size w w' :=by
 have hwk:IntKind.i64.wrap k' =k' :=by rw [IntKind.wrap_i64];omega
 go_enter Tryz.func131,Tryz.ntmps131
 go_upto_region 1 with fail
 refine wp_region_chain (fun w' => w'.cell? ⟨w.heap.size+1,0,none⟩=some (.int .u64 v')∧w'.cell? ⟨w.heap.size+1,1,none⟩=some (.int .u32 r')∧w'.cell? ⟨w.heap.size+1,2,none⟩=some (.int .u32 k')) [8,10,12] [7,9,11] [] (rds [0,1,2,3,4,5,6,7] (.ef 8 (rds [9] (.ef 10 (rds [11] (.ef 12 .nil)))))) (by kernel_rfl) (by kernel_rfl) ⟨by go_simp,by go_simp,by go_simp⟩ ?_
 intro O hO
 have HO:=Lib.hid hO
 clear hO
 simp only [rds]
 (repeat (first|(refine lxp HO (v:=?_) (fun w'=> ?_) ?_;rotate_left;(focus (go_simp;(try exact rfl);done));try go_simp)|(refine lxr HO (v:=?_) (fun w' hC'=> ?_) ?_;rotate_left;(focus (obtain ⟨c1,c2,c3⟩:=hC';go_simp;(try exact rfl);done));try go_simp)|(refine lxo HO ?_;try go_simp)))
 (refine lxe HO (fun K hK=> ?_);go_simp;refine hK _ _ ?_ ?_;all_goals clear hK K)
 ·exact .inr ⟨by go_simp,by go_simp,by go_simp⟩
 (repeat (first|(refine lxp HO (v:=?_) (fun w'=> ?_) ?_;rotate_left;(focus (go_simp;(try exact rfl);done));try go_simp)|(refine lxr HO (v:=?_) (fun w' hC'=> ?_) ?_;rotate_left;(focus (obtain ⟨c1,c2,c3⟩:=hC';go_simp;(try exact rfl);done));try go_simp)|(refine lxo HO ?_;try go_simp)))
 (refine lxe HO (fun K hK=> ?_);go_simp;refine hK _ _ ?_ ?_;all_goals clear hK K)
 ·exact .inr ⟨by go_simp,by go_simp,by go_simp⟩
 (repeat (first|(refine lxp HO (v:=?_) (fun w'=> ?_) ?_;rotate_left;(focus (go_simp;(try exact rfl);done));try go_simp)|(refine lxr HO (v:=?_) (fun w' hC'=> ?_) ?_;rotate_left;(focus (obtain ⟨c1,c2,c3⟩:=hC';go_simp;(try exact rfl);done));try go_simp)|(refine lxo HO ?_;try go_simp)))
 (refine lxe HO (fun K hK=> ?_);go_simp;refine hK _ _ ?_ ?_;all_goals clear hK K)
 ·exact .inr ⟨by go_simp,by go_simp,by go_simp⟩
 refine wpL_nil ?_
 go_wp2
 exact bodyPost_ret (v:= .agg #[.int .i64 id, .int .i64 g, .int .i64 k', .int .i64 cpu, .int .u64 m, .bool rd, .int .u64 v', .int .u32 r']) (by simp [results,Tryz.results131,go_sem, *]) rfl ⟨rfl,Mod.below (by (repeat first|(with_reducible exact (Mod.refl No w))|(with_reducible refine Mod.alloc ?_ _)|(with_reducible refine Mod.drew ?_)|(with_reducible refine Mod.drewN ?_ _)|(with_reducible refine Mod.sc ?_)))⟩
end Go.Q
namespace Go.Q
open Go.RowKit Go.Proofs
section
variable {A:ASt} {d:Nat}
theorem memb_root (h:One1 A d) {t:TK} (ht:A.task=some t) {c:Nat} (hc:t.cpu=c):memb A d 0 c≠none:=by
 obtain ⟨_,h0,h1,h2,h3,h4⟩:=h.ok t ht
 obtain ⟨m',k',hr⟩:=chn_root (wt:=A.wt) d t.group.toNat t.id 0 h2
 unfold memb
 rw [ht]
 simp only [hc,if_true]
 rw [hr]
 simp only
 split <;> simp
set_option maxRecDepth 100000 in
set_option maxHeartbeats 1000000 in
theorem r_first (h:One1 A d) (t:TK) (ht:A.task=some t) (c:Nat) (hc:t.cpu=c) (hcC:c < A.C) (w:World) (ow:Nat→SOwn) (B:STB) (hs:StAt w ow B A):
  Calls Tryz.prog 66 #[stv B A, .int .i64 c] w fun e w' => e= .returned (.int .i64 t.id)∧Below w.heap.size w w' :=by
 have HI:=Lib.hid (And.intro h (And.intro ht hc))
 have hG:=h.T.g2
 have hG1:=h.T.g1
 clear h ht hc
 go_enter Tryz.func66,Tryz.ntmps66
 go_wp2
 go_loopw [5] (fun s5 wr=> ∃ y:Nat,s5= .int .i64 y∧y < A.G∧memb A d y c≠none∧Mod No w wr∧Row wr w.heap.size 7 (fl [.int .i64 A.C, .int .u64 A.cr,slc B.gb A.G B.gcap,slc B.cl A.C B.ccap,slc B.cu A.C B.ucap,B.tv,slc B.so A.G B.scap])) (fun s5 _=> A.G - (RowKit.intOf s5).toNat)
 case atStart=> exact ⟨0,rfl,by omega,memb_root HI.out.1 HI.out.2.1 HI.out.2.2,(Mod.refl No w).alloc _,row_newL w [_,_,_,_,_,_,_] _⟩
 case round=>
  obtain ⟨wk,rfl⟩:∃ W,W=wr:=⟨wr,rfl⟩
  obtain ⟨y,rfl,hy,hm,hmod,X⟩:=hrel
  have lX:=X.lt
  have x0:=X.cL 0 _ (by omega) rfl
  have x1:=X.cL 1 _ (by omega) rfl
  have x2:=X.cL 2 _ (by omega) rfl
  have x3:=X.cL 3 _ (by omega) rfl
  have x4:=X.cL 4 _ (by omega) rfl
  have x5:=X.cL 5 _ (by omega) rfl
  have x6:=X.cL 6 _ (by omega) rfl
  go_wp2_with fail
  refine (members_ok HI.out.1 256 y c wk ow B (by omega) hy hcC (hs.no hmod)).mono ?_;rintro e w1 ⟨v1,rfl,hM,hb1⟩
  cases hp:memb A d y c with
  |none=> exact absurd hp hm
  |some p=>
   rw [hp] at hM
   obtain ⟨b1,c1,rfl,R1⟩:=hM
   have m1:Mod No w w1:=Mod.trans hmod (Mod.of_below hb1 No) (fun _ _ h=> h)
   have X1:=X.mod (Mod.of_below hb1 No) (fun h=> h)
   have hinv:=memb_inv HI.out.1 hp
   have hI:=Lib.hid (And.intro hp hinv)
   clear hp hinv hm x0 x1 x2 x3 x4 x5 x6
   go_wp2_with fail
   refine (r_least b1 c1 p.1 p.2.1 p.2.2 _ R1).mono ?_;rintro e w2 ⟨rfl,hb2⟩
   have m2:Mod No w w2:=Mod.trans m1 (Mod.of_below hb2 No) (fun _ _ h=> h)
   have X2:=X1.mod (Mod.of_below hb2 No) (fun h=> h)
   rcases hI.out.2 with ⟨t',e1,e2,e3,e4⟩|⟨x,hx0,hxG,hpx,hgx,hne,e4⟩
   ·have ht' :t' =t:=Option.some.inj (e1.symm.trans HI.out.2.1)
    subst ht'
    rw [e4]
    clear hI e1 e2 e3 e4
    go_wp2
    go_ret
    exact ⟨rfl,Mod.below (by (repeat first|(with_reducible exact m2)|(with_reducible refine Mod.alloc ?_ _)|(with_reducible refine Mod.drew ?_)|(with_reducible refine Mod.drewN ?_ _)|(with_reducible refine Mod.sc ?_)))⟩
   ·rw [e4]
    have hN:=Lib.hid hne
    clear hI e4 hne hpx
    go_wp2
    refine ⟨⟨x,rfl,hxG,hN.out,by (repeat first|(with_reducible exact m2)|(with_reducible refine Mod.alloc ?_ _)|(with_reducible refine Mod.drew ?_)|(with_reducible refine Mod.drewN ?_ _)|(with_reducible refine Mod.sc ?_)),X2.alloc _⟩,by simp only [RowKit.intOf];omega⟩
set_option maxRecDepth 100000 in
theorem r_find0 (a:Option Addr) (n:Nat) (id:Int) (C:Int) (cr:Int) (v2 v3 v4 v6:Value) (w:World):
  Calls Tryz.prog 129 #[.agg #[.int .i64 C, .int .u64 cr,v2,v3,v4, .slice a 0 n,v6], .int .i64 id] w fun e w' => e= .returned (.int .i64 (-1))∧Below w.heap.size w w' :=by
 go_enter Tryz.func129,Tryz.ntmps129
 go_wp2
 go_loopw [5] (fun v wr=> v= .int .i64 0∧wr=w.alloc (.cells #[.int .i64 C, .int .u64 cr,v2,v3,v4, .slice a 0 n,v6] 48)) (fun _ _=> 0)
 case atStart=> exact ⟨rfl,rfl⟩
 case round=>
  obtain ⟨rfl,rfl⟩:=hrel
  go_wp2
  go_ret
  exact ⟨rfl,belowX⟩
set_option maxRecDepth 100000 in
theorem r_find1 (b n:Nat) (t:TK) (C:Int) (cr:Int) (v2 v3 v4 v6:Value) (w:World) (hr:Row w b 8 (fl (tkc t))):
  Calls Tryz.prog 129 #[.agg #[.int .i64 C, .int .u64 cr,v2,v3,v4,slc b 1 n,v6], .int .i64 t.id] w fun e w' => e= .returned (.int .i64 0)∧Below w.heap.size w w' :=by
 have q0:w.cell? ⟨b,0,none⟩=some (.int .i64 t.id):=hr.cL 0 _ (by omega) rfl
 have lb:=hr.lt
 have e1:(t.id==t.id)=true:=by simp
 go_enter Tryz.func129,Tryz.ntmps129
 go_wp2
 go_loopw [5] (fun v wr=> v= .int .i64 0∧wr=w.alloc (.cells #[.int .i64 C, .int .u64 cr,v2,v3,v4,slc b 1 n,v6] 48)) (fun _ _=> 0)
 case atStart=> exact ⟨rfl,rfl⟩
 case round=>
  obtain ⟨rfl,rfl⟩:=hrel
  go_wp2
  go_ret
  exact ⟨rfl,belowX⟩
end
end Go.Q
namespace Go.Q
open Go.RowKit Go.Proofs
theorem spt_upd (f:Nat→Int×Int×Int) (c:Nat) (p:Int×Int×Int) (j:Nat) (x:Value) (hj:j < 3) (hx:spt (fun _=> p) (c * 3+j)=x) (ho:∀ j',j' < 3→j' ≠j→spt (fun _=> p) (c * 3+j')=spt f (c * 3+j')) (i:Nat):
  (if i=c * 3+j then x else spt f i)=spt (upd1 f c p) i:=by
 have key:∀ j',j' < 3→spt (upd1 f c p) (c * 3+j')=spt (fun _=> p) (c * 3+j'):=by
  intro j' hj'
  have e1:(c * 3+j') / 3=c:=by omega
  simp only [spt,upd1,e1,if_true]
 by_cases hi:i / 3=c
 ·obtain ⟨j',hj',rfl⟩:∃ j',j' < 3∧i=c * 3+j' :=⟨i % 3,by omega,by omega⟩
  rw [key j' hj']
  by_cases e:j' =j
  ·subst e;rw [if_pos rfl,hx]
  ·rw [if_neg (by omega),ho j' hj' e]
 ·rw [if_neg (by omega)]
  simp only [spt,upd1,if_neg hi]
section
variable {w:World} {ow:Nat→SOwn} {B:STB} {A:ASt}
theorem StAt.setSpot (h:StAt w ow B A) {g c:Nat} (hg:g < A.G) (hc:c < A.C) (p:Int×Int×Int) (j:Nat) (x:Value) (hj:j < 3) (hx:spt (fun _=> p) (c * 3+j)=x) (ho:∀ j',j' < 3→j' ≠j→spt (fun _=> p) (c * 3+j')=spt (A.spots g) (c * 3+j')):
  StAt (w.setCell ⟨B.si g,c * 3+j,none⟩ x) ow B { A with spots:=upd2 A.spots g c p }:=by
 have hS:=h.1 (.si g) hg
 refine h.set (.si g) ((Mod.refl _ w).setCell (p:=⟨B.si g,c * 3+j,none⟩) (.inr ⟨hS.1,by simp⟩) _) (fun _=> ⟨hS.1, ?_⟩) ?_
 ·refine (hS.2.set (i:=c * 3+j) (by omega) x).congr (fun i hi=> ?_)
  rw [spt_upd (A.spots g) c p j x hj hx ho i]
  congr 1
  funext c'
  simp only [upd1,upd2]
  simp
 ·intro t' ht' hp
  cases t' with
  |si g' =>
   intro hg'
   have:=hp hg'
   have hne:g' ≠g:=by rintro rfl;exact ht' rfl
   refine ⟨this.1,this.2.congr (fun i hi=> ?_)⟩
   congr 1
   funext c'
   simp only [upd2]
   rw [if_neg (by rintro ⟨h1,_⟩;exact hne h1)]
  |_=> exact hp
theorem StAt.setFloor (h:StAt w ow B A) {g c:Nat} (hg:g < A.G) (hc:c < A.C) (f:Int):StAt (w.setCell ⟨B.si g,c * 3+2,none⟩ (.int .u64 f)) ow B { A with spots:=upd2 A.spots g c ((A.spots g c).1,(A.spots g c).2.1,f) }:=by
 refine h.setSpot hg hc _ 2 _ (by omega) (spt2 _ _) (fun j' hj' hne=> ?_)
 rcases (by omega:j' =0∨j' =1) with rfl|rfl
 ·rw [Nat.add_zero,spt0,spt0]
 ·rw [spt1,spt1]
theorem StAt.setV (h:StAt w ow B A) {g c:Nat} (hg:g < A.G) (hc:c < A.C) (f:Int):StAt (w.setCell ⟨B.si g,c * 3,none⟩ (.int .u64 f)) ow B { A with spots:=upd2 A.spots g c (f,(A.spots g c).2.1,(A.spots g c).2.2) }:=by
 refine h.setSpot hg hc _ 0 _ (by omega) (spt0 _ _) (fun j' hj' hne=> ?_)
 rcases (by omega:j' =1∨j' =2) with rfl|rfl
 ·rw [spt1,spt1]
 ·rw [spt2,spt2]
theorem StAt.setR (h:StAt w ow B A) {g c:Nat} (hg:g < A.G) (hc:c < A.C) (f:Int):StAt (w.setCell ⟨B.si g,c * 3+1,none⟩ (.int .u32 f)) ow B { A with spots:=upd2 A.spots g c ((A.spots g c).1,f,(A.spots g c).2.2) }:=by
 refine h.setSpot hg hc _ 1 _ (by omega) (spt1 _ _) (fun j' hj' hne=> ?_)
 rcases (by omega:j' =0∨j' =2) with rfl|rfl
 ·rw [Nat.add_zero,spt0,spt0]
 ·rw [spt2,spt2]
theorem StAt.modSi (h:StAt w ow B A) {g:Nat} (hg:g < A.G) (i:Nat) (v:Value):Mod (fun b=> ow b≠ .no) w (w.setCell ⟨B.si g,i,none⟩ v):=(Mod.refl _ w).setCell (p:=⟨B.si g,i,none⟩) (.inr (by show ow (B.si g)≠ .no;rw [(h.1 (.si g) hg).1];simp)) _
theorem StAt.setCur (h:StAt w ow B A) {c:Nat} (hc:c < A.C) (v:Int):StAt (w.setCell ⟨B.cu,c,none⟩ (.int .i64 v)) ow B { A with current:=upd1 A.current c v }:=by
 have hx:=h.1 .cu
 refine h.set .cu ((Mod.refl _ w).setCell (p:=⟨B.cu,c,none⟩) (.inr ⟨hx.1,by simp⟩) _) ⟨hx.1, ?_⟩ ?_
 ·refine (hx.2.set hc _).congr (fun i hi=> ?_)
  simp only [ints,upd1]
  split <;> rfl
 ·intro t' ht' hp
  cases t' with
  |cu=> exact absurd rfl ht'
  |_=> exact hp
theorem StAt.setClk (h:StAt w ow B A) {c:Nat} (hc:c < A.C) (v:Int):StAt (w.setCell ⟨B.cl,c,none⟩ (.int .i64 v)) ow B { A with clocks:=upd1 A.clocks c v }:=by
 have hx:=h.1 .cl
 refine h.set .cl ((Mod.refl _ w).setCell (p:=⟨B.cl,c,none⟩) (.inr ⟨hx.1,by simp⟩) _) ⟨hx.1, ?_⟩ ?_
 ·refine (hx.2.set hc _).congr (fun i hi=> ?_)
  simp only [ints,upd1]
  split <;> rfl
 ·intro t' ht' hp
  cases t' with
  |cl=> exact absurd rfl ht'
  |_=> exact hp
theorem memb_floor (A:ASt) (f:Nat→Nat→Int×Int×Int) (hf:∀ g c,(f g c).1=(A.spots g c).1) (d g c:Nat):memb { A with spots:=f } d g c=memb A d g c:=by
 unfold memb
 cases A.task with
 |none=> rfl
 |some t=>
  simp only
  split
  ·split
   ·rfl
   ·split
    ·rfl
    ·rw [hf]
  ·rfl
def rsp (A:ASt) (d g c:Nat):Int×Int×Int:=match memb A d g c with
 |none=> A.spots g c
 |some p=> ((A.spots g c).1,(A.spots g c).2.1,mxI (A.spots g c).2.2 p.1)
end
end Go.Q
