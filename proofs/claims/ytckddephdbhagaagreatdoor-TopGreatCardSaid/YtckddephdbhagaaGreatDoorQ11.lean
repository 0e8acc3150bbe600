/- A part of the proof that TopGreat answers true: what some of the functions on its road compute. -/
import Derived.Test.YtckddephdbhagaaGreatDoorQ3
import Derived.Test.YtckddephdbhagaaGreatDoorQ6
import Derived.Test.YtckddephdbhagaaGreatDoorQ7
import Derived.Test.YtckddephdbhagaaGreatDoorQ8
import Derived.Test.YtckddephdbhagaaGreatDoorQ10
set_option linter.unusedVariables false
set_option linter.unusedSimpArgs false
namespace Go.Q
open Go.RowKit Go.Proofs
set_option maxRecDepth 100000 in
theorem compare_lt (a b:Nat) (x y:Int) (h:x < y) (w:World) (ca:w.cell? ⟨a,0,none⟩=some (.int .u64 x)) (cb:w.cell? ⟨b,0,none⟩=some (.int .u64 y)):
  Calls Tryz.prog 220 #[slc a 3 3,slc b 3 3] w fun e w' => e= .returned (.int .i64 (-1))∧w=w' :=by
 have e0:=cmpI_lt h
 have e1:(cmpI x y !=0)=true:=by rw [e0];rfl
 have HE:=Lib.hid e0
 clear e0 h
 go_enter Tryz.func220,Tryz.ntmps220
 go_wp2
 go_loopw [11] (fun s11 wr=> s11= .int .i64 0∧wr=w) (fun _ _=> 0)
 case atStart=> exact ⟨rfl,rfl⟩
 case round=>
  obtain ⟨rfl,rfl⟩:=hrel
  go_wp2_with fail
  refine (compareu_any x y _).mono ?_;rintro e w1 ⟨rfl,rfl⟩
  go_wp2
  go_ret
  exact ⟨by rw [HE.out];rfl,rfl⟩
set_option maxRecDepth 100000 in
theorem m_v (x y z:Int) (w:World):Calls Tryz.prog 161 #[.agg #[.int .u64 x, .int .u64 y, .int .u64 z]] w fun e w' => e= .returned (.int .u64 x)∧Below w.heap.size w w' :=by
 go_enter Tryz.func161,Tryz.ntmps161
 go_wp2
 go_ret
 exact ⟨rfl,belowX⟩
def lvl:Option (Int×Int×Int)→List Value
 |none=> [.int .u64 18446744073709551615, .int .u64 18446744073709551615, .int .u64 18446744073709551615]
 |some p=> [.int .u64 p.1, .int .u64 p.2.1, .int .u64 p.2.2]
abbrev lvv (p:Option (Int×Int×Int)):Value:= .agg (lvl p).toArray
structure LB (w:World) (b s:Nat) (p:Option (Int×Int×Int)):Prop where
 best:Row w b 3 (fl (lvl p))
 some:Row w s 1 (fl [.bool p.isSome])
theorem LB.mod {S:Nat→Prop} {w w' :World} {b s:Nat} {p:Option (Int×Int×Int)} (h:LB w b s p) (hm:Mod S w w') (h1:¬S b) (h2:¬S s):LB w' b s p:=⟨h.best.mod hm h1,h.some.mod hm h2⟩
theorem LB.no {w w' :World} {b s:Nat} {p:Option (Int×Int×Int)} (h:LB w b s p) (hm:Mod No w w'):LB w' b s p:=h.mod hm (fun h=> h) (fun h=> h)
set_option maxRecDepth 100000 in
theorem least1_ok (sp bp:Nat) (x y z:Int) (hx:x < 18446744073709551615) (hne:sp≠bp) (w:World) (h:LB w bp sp none):
  Calls Tryz.prog 219 #[.agg #[.int .u64 x, .int .u64 y, .int .u64 z],ptr sp,ptr bp] w fun e w' => e= .returned (.tuple #[])∧LB w' bp sp (some (x,y,z))∧Mod (fun b=> b=sp∨b=bp) w w' :=by
 have Rs:=h.some
 have Rb:=h.best
 have lS:=Rs.lt
 have lB:=Rb.lt
 have fs:=Rs.free 0
 have q:=Rs.cL 0 _ (by omega) rfl
 have HX:=Lib.hid hx
 clear hx h
 go_enter Tryz.func219,Tryz.ntmps219
 go_upto_region 2 with fail
 refine wp_world (fun W=> Row W w.heap.size 3 (fl [.int .u64 x, .int .u64 y, .int .u64 z])∧Row W sp 1 (fl [.bool true])∧Row W bp 3 (fl (lvl none))∧Mod (fun b=> b=sp∨b=bp) w W) ?_ ?_
 ·exact ⟨row_newL' _ _ [_,_,_] _ (by simp),((Rs.set (i:=0) (by omega) _).congr (fun i hi=> by obtain rfl:i=0:=(by omega);rfl)).alloc _,(Rb.setOther (p:=⟨sp,0,none⟩) hne _).alloc _,((Mod.refl _ w).setCell (p:=⟨sp,0,none⟩) (.inr (.inl rfl)) _).alloc _⟩
 intro W ⟨X,Rs1,Rb1,m1⟩
 clear Rs Rb fs q
 have x0:=X.cL 0 _ (by omega) rfl
 have x1:=X.cL 1 _ (by omega) rfl
 have x2:=X.cL 2 _ (by omega) rfl
 have b0:=Rb1.cL 0 _ (by omega) rfl
 have b1:=Rb1.cL 1 _ (by omega) rfl
 have b2:=Rb1.cL 2 _ (by omega) rfl
 have g0:=Rb1.free 0
 have g1:=Rb1.free 1
 have g2:=Rb1.free 2
 have lX:=X.lt
 have lB1:=Rb1.lt
 refine wp_region_chain (fun w' => w' =W.drew) [2] [] [] (rds [0,1] (.ef 2 (rds [3] .nil))) (by kernel_rfl) (by kernel_rfl) rfl ?_
 intro O hO
 have HO:=Lib.hid hO
 clear hO
 simp only [rds]
 (repeat (first|(refine lxp HO (v:=?_) (fun w'=> ?_) ?_;rotate_left;(focus (go_simp;(try exact rfl);done));try go_simp)|(refine lxr HO (v:=?_) (fun w' hC'=> ?_) ?_;rotate_left;(focus (obtain rfl:=hC';go_simp;(try exact rfl);done));try go_simp)|(refine lxo HO ?_;try go_simp)))
 refine lxe HO (fun Kx hKx=> ?_)
 go_simp
 refine (compare_lt w.heap.size bp x 18446744073709551615 HX.out W.drew x0 b0).mono ?_;rintro e w3 ⟨rfl,rfl⟩
 refine hKx _ _ (.inr rfl) ?_
 clear hKx Kx
 (repeat (first|(refine lxp HO (v:=?_) (fun w'=> ?_) ?_;rotate_left;(focus (go_simp;(try exact rfl);done));try go_simp)|(refine lxr HO (v:=?_) (fun w' hC'=> ?_) ?_;rotate_left;(focus (obtain rfl:=hC';go_simp;(try exact rfl);done));try go_simp)|(refine lxo HO ?_;try go_simp)))
 refine wpL_nil ?_
 go_wp2
 go_end0
 refine ⟨rfl,⟨?_, ?_⟩, ?_⟩
 ·exact (((Rb1.set (i:=0) (by omega) _).set (i:=1) (by omega) _).set (i:=2) (by omega) _).congr (by apply le3 <;> rfl)
 ·exact ((Rs1.setOther (p:=⟨bp,0,none⟩) (Ne.symm hne) _).setOther (p:=⟨bp,1,none⟩) (Ne.symm hne) _).setOther (p:=⟨bp,2,none⟩) (Ne.symm hne) _
 ·exact (((m1.setCell (p:=⟨bp,0,none⟩) (.inr (.inr rfl)) _).setCell (p:=⟨bp,1,none⟩) (.inr (.inr rfl)) _).setCell (p:=⟨bp,2,none⟩) (.inr (.inr rfl)) _).drew
def mrow (B:STB) (A:ASt):List Value:= [.int .i64 A.C, .int .u64 A.cr,slc B.gb A.G B.gcap,slc B.cl A.C B.ccap,slc B.cu A.C B.ucap,B.tv,slc B.so A.G B.scap, .bool true]
structure MAt (w:World) (m:Nat) (ow:Nat→SOwn) (B:STB) (A:ASt):Prop where
 row:Row w m 8 (fl (mrow B A))
 own:ow m= .no
 st:StAt w ow B A
theorem MAt.mod {S:Nat→Prop} {w w' :World} {m:Nat} {ow:Nat→SOwn} {B:STB} {A:ASt} (h:MAt w m ow B A) (hm:Mod S w w') (h1:¬S m) (hs:∀ b,S b→ow b= .no):MAt w' m ow B A:=⟨h.row.mod hm h1,h.own,h.st.mod hm hs⟩
theorem MAt.no {w w' :World} {m:Nat} {ow:Nat→SOwn} {B:STB} {A:ASt} (h:MAt w m ow B A) (hm:Mod No w w'):MAt w' m ow B A:=h.mod hm (fun h=> h) (fun _ h=> h.elim)
theorem MAt.look {w:World} {m:Nat} {ow:Nat→SOwn} {B:STB} {A:ASt} (h:MAt w m ow B A):w.cell? ⟨m,0,none⟩=some (.int .i64 A.C)∧w.cell? ⟨m,1,none⟩=some (.int .u64 A.cr)∧w.cell? ⟨m,2,none⟩=some (slc B.gb A.G B.gcap)∧w.cell? ⟨m,3,none⟩=some (slc B.cl A.C B.ccap)∧
  w.cell? ⟨m,4,none⟩=some (slc B.cu A.C B.ucap)∧w.cell? ⟨m,5,none⟩=some B.tv∧w.cell? ⟨m,6,none⟩=some (slc B.so A.G B.scap)∧w.cell? ⟨m,7,none⟩=some (.bool true):=
 ⟨h.row.cL 0 _ (by omega) rfl,h.row.cL 1 _ (by omega) rfl,h.row.cL 2 _ (by omega) rfl,h.row.cL 3 _ (by omega) rfl,h.row.cL 4 _ (by omega) rfl,h.row.cL 5 _ (by omega) rfl,h.row.cL 6 _ (by omega) rfl,h.row.cL 7 _ (by omega) rfl⟩
structure VOk (A:ASt):Prop where
 tv:∀ t,A.task=some t→t.v < 18446744073709551615
 sv:∀ g c,(A.spots g c).1 < 18446744073709551615
section
variable {A:ASt} {d:Nat}
theorem mmb_first (h:One1 A d) (g c:Nat):mmb A d g c (g+1)=match A.task with
  |none=> none
  |some t=> if t.group=g∧t.cpu=c then some (t.v,0,t.id) else none:=by
 refine Eq.trans ?_ (mmb_one h g c)
 unfold mmb
 cases hm:memb A d g c with
 |none=> rfl
 |some p=>
  simp only
  rcases memb_inv h hm with ⟨t,_,_,_,rfl⟩|⟨x,hx0,hx,_,hgx,_,rfl⟩
  ·simp
  ·simp only
   rw [if_neg (by omega),if_neg (by omega)]
set_option maxRecDepth 100000 in
set_option maxHeartbeats 4000000 in
theorem m_least (h:One1 A d) (hv:VOk A):∀ (n g c:Nat) (w:World) (m:Nat) (ow:Nat→SOwn) (B:STB),A.G - g≤n→g < A.G→c < A.C→MAt w m ow B A→
  Calls Tryz.prog 160 #[ptr m, .int .i64 g, .int .i64 c] w fun e w' => e= .returned (.tuple #[lvv (memb A d g c), .bool (memb A d g c).isSome])∧Below w.heap.size w w' :=by
 intro n
 induction n with
 |zero=> intro g c w m ow B hn hg;omega
 |succ n ih=>
  intro g c w m ow B hn hg hc hs
  have HI:=Lib.hid (And.intro ih (And.intro h hv))
  have hG:=h.T.g2
  clear ih h hv
  have i0:(0:Int)≤g:=by omega
  have i1:(0:Int)≤c:=by omega
  have i2:(c:Int) < A.C:=by omega
  have lM:=hs.row.lt
  go_enter Tryz.func160,Tryz.ntmps160
  go_upto_region 3 with fail
  refine wp_world (fun V=> MAt V m ow B A∧Mod No w V∧Row V w.heap.size 3 (fl [.int .u64 0, .int .u64 0, .int .u64 0])∧LB V (w.heap.size+1) (w.heap.size+1+1) none) ?_ ?_
  ·have m:=((((Mod.refl No w).alloc (.cells #[.int .u64 0, .int .u64 0, .int .u64 0] 268)).alloc (.cells #[.int .u64 18446744073709551615, .int .u64 18446744073709551615, .int .u64 18446744073709551615] 268)).alloc (.cells #[.bool false] 4))
   exact ⟨hs.no m,m,((row_newL w [_,_,_] _).alloc _).alloc _,(row_newL' _ _ [_,_,_] _ (by simp)).alloc _,row_newL' _ _ [_] _ (by simp)⟩
  intro V ⟨S1,m1,Z1,L1⟩
  have hid1:∀ t,A.task=some t→0≤t.id∧t.id < 65536:=fun t ht=> by have:=HI.out.2.1.ok t ht;omega
  obtain ⟨o5,n5,d5,hB5⟩:=S1.st.tvo
  have c5:=S1.look.2.2.2.2.2.1
  rw [hB5] at c5
  have HB5:=Lib.hid hB5
  clear hB5
  go_upto_block 0 with fail
  go_cut [] (fun wx=> LB wx (w.heap.size+1) (w.heap.size+1+1) (mmb A d g c (g+1))∧Mod No w wx∧Row wx w.heap.size 3 (fl [.int .u64 0, .int .u64 0, .int .u64 0]))
  case first=>
   have hX:=mmb_first HI.out.2.1 g c
   cases hA:A.task with
   |none=>
    obtain ⟨ta,tc,htv⟩:=S1.st.t0 hA
    rw [hA] at hX
    simp only at hX
    have hB5:=HB5.out
    rw [htv] at hB5
    simp only [Value.slice.injEq] at hB5
    obtain ⟨rfl,rfl,rfl⟩:=hB5
    have hX' :=Lib.hid hX
    clear hX
    go_wp2
    go_loopw [24] (fun s24 wr=> s24= .int .i64 0∧wr=V) (fun _ _=> 0)
    case atStart=> exact ⟨rfl,rfl⟩
    case round=>
     obtain ⟨rfl,rfl⟩:=hrel
     go_wp2_with fail
     go_meet
     rw [hX'.out]
     exact ⟨L1,m1,Z1⟩
   |some t=>
    obtain ⟨tb,tc,htv,_,RT⟩:=S1.st.t1 hA
    rw [hA] at hX
    simp only at hX
    have hB5:=HB5.out
    rw [htv] at hB5
    simp only [Value.slice.injEq] at hB5
    obtain ⟨rfl,rfl,rfl⟩:=hB5
    have hrd:t.ready=true:=(HI.out.2.1.ok t hA).1
    obtain ⟨id0,id1⟩:=hid1 t hA
    have hX' :=Lib.hid (And.intro hX htv)
    clear hX hid1
    go_wp2
    go_loopw [24] (fun s24 wr=> ∃ k:Int,s24= .int .i64 k∧(k=0∨k=1)∧LB wr (w.heap.size+1) (w.heap.size+1+1) (if k=0 then none else mmb A d g c (g+1))∧Mod No w wr∧Row wr tb 8 (fl (tkc t))∧Row wr w.heap.size 3 (fl [.int .u64 0, .int .u64 0, .int .u64 0])) (fun s24 _=> 1 - (RowKit.intOf s24).toNat)
    case atStart=> exact ⟨0,rfl, .inl rfl,L1,m1,RT,Z1⟩
    case round=>
     obtain ⟨wk,rfl⟩:∃ W,W=wr:=⟨wr,rfl⟩
     obtain ⟨k,rfl,hk,hL,hmod,R,Z⟩:=hrel
     have lR:=R.lt
     have lw:w.heap.size+1+1 < wk.heap.size:=hL.some.lt
     rcases hk with rfl|rfl
     ·rw [if_pos rfl] at hL
      have q0:wk.cell? ⟨tb,0,none⟩=some (.int .i64 t.id):=R.cL 0 _ (by omega) rfl
      have q1:wk.cell? ⟨tb,1,none⟩=some (.int .i64 t.group):=R.cL 1 _ (by omega) rfl
      have q2:wk.cell? ⟨tb,2,none⟩=some (.int .i64 t.weight):=R.cL 2 _ (by omega) rfl
      have q3:wk.cell? ⟨tb,3,none⟩=some (.int .i64 t.cpu):=R.cL 3 _ (by omega) rfl
      have q4:wk.cell? ⟨tb,4,none⟩=some (.int .u64 t.mask):=R.cL 4 _ (by omega) rfl
      have q5:wk.cell? ⟨tb,5,none⟩=some (.bool true):=by have:=R.cL 5 _ (by omega) rfl;rw [this];exact congrArg (fun b=> some (Value.bool b)) hrd
      have q6:wk.cell? ⟨tb,6,none⟩=some (.int .u64 t.v):=R.cL 6 _ (by omega) rfl
      have q7:wk.cell? ⟨tb,7,none⟩=some (.int .u32 t.r):=R.cL 7 _ (by omega) rfl
      by_cases hgc:t.group=g∧t.cpu=c
      ·have e1:(t.group==(g:Int))=true:=by simp [hgc.1]
       have e2:(t.cpu==(c:Int))=true:=by simp [hgc.2]
       have hm1:=hX'.out.1
       rw [if_pos hgc] at hm1
       have hm1' :=Lib.hid hm1
       have ntb:tb≠w.heap.size+1∧tb≠w.heap.size+1+1:=by
        have h0:tb < w.heap.size∨w.heap.size+1+1 < tb∨tb=w.heap.size∨tb=w.heap.size+1∨tb=w.heap.size+1+1:=by omega
        have:=hs.st.t1 hA
        obtain ⟨tb2,tc2,h2,_,h3⟩:=this
        rw [hX'.out.2] at h2
        simp only [Value.slice.injEq,Option.some.injEq,Addr.mk.injEq,and_true,true_and] at h2
        have:=h3.lt
        omega
       clear hgc hm1
       go_wp2_with fail
       refine (least1_ok (w.heap.size+1+1) (w.heap.size+1) t.v 0 t.id (HI.out.2.2.tv t hA) (by omega) _ (hL.no (by (repeat first|(with_reducible exact (Mod.refl No wk))|(with_reducible refine Mod.alloc ?_ _)|(with_reducible refine Mod.drew ?_)|(with_reducible refine Mod.drewN ?_ _)|(with_reducible refine Mod.sc ?_))))).mono ?_;rintro e w5 ⟨rfl,L5,m5⟩
       have m5' :Mod No w w5:=Mod.trans (by (repeat first|(with_reducible exact hmod)|(with_reducible refine Mod.alloc ?_ _)|(with_reducible refine Mod.drew ?_)|(with_reducible refine Mod.drewN ?_ _)|(with_reducible refine Mod.sc ?_))) m5 (fun b hb h=> by rcases h with h|h <;> omega)
       have R5:Row w5 tb 8 (fl (tkc t)):=(R.alloc _).mod m5 (by rintro (h|h) <;> omega)
       go_wp2
       refine ⟨⟨_,_,_,_,_,_,_,_,_,_,_,_,_,_,_,_,_,_,_,_,_,_,_,_,_,_,_,_,⟨1,rfl, .inr rfl,by rw [if_neg (by omega),hm1'.out];exact L5,m5',R5,(Z.alloc _).mod m5 (by rintro (h|h) <;> omega)⟩,rfl⟩,by simp [RowKit.intOf]⟩
      ·have hm1:=hX'.out.1
       rw [if_neg hgc] at hm1
       have hm1' :=Lib.hid hm1
       have mk1:Mod No wk (wk.alloc (.cells #[.int .i64 t.id, .int .i64 t.group, .int .i64 t.weight, .int .i64 t.cpu, .int .u64 t.mask, .bool true, .int .u64 t.v, .int .u32 t.r] 119)):=(Mod.refl No wk).alloc _
       clear hm1
       by_cases hg1:t.group=g
       ·have e1:(t.group==(g:Int))=true:=by simp [hg1]
        have e2:(t.cpu==(c:Int))=false:=by simp;intro h2;exact hgc ⟨hg1,h2⟩
        clear hg1 hgc
        go_wp2
        refine ⟨⟨1,rfl, .inr rfl,by rw [if_neg (by omega),hm1'.out];exact hL.no mk1,Mod.trans hmod mk1 (fun _ _ h=> h),R.alloc _,Z.alloc _⟩,by simp [RowKit.intOf]⟩
       ·have e1:(t.group==(g:Int))=false:=by simp;exact hg1
        clear hg1 hgc
        go_wp2
        refine ⟨⟨1,rfl, .inr rfl,by rw [if_neg (by omega),hm1'.out];exact hL.no mk1,Mod.trans hmod mk1 (fun _ _ h=> h),R.alloc _,Z.alloc _⟩,by simp [RowKit.intOf]⟩
     ·rw [if_neg (by omega)] at hL
      go_wp2_with fail
      go_meet
      exact ⟨hL,hmod,Z⟩
  case rest=>
   obtain ⟨hM1,mx,Zx⟩:=hcut
   go_wp2
   go_loopw [13] (fun s13 wr=> ∃ k:Nat,s13= .int .i64 k∧g+1≤k∧k≤A.G∧LB wr (w.heap.size+1) (w.heap.size+1+1) (mmb A d g c k)∧Mod No w wr∧Row wr w.heap.size 3 (fl [.int .u64 0, .int .u64 0, .int .u64 0])) (fun s13 _=> A.G - (RowKit.intOf s13).toNat)
   case atStart=> exact ⟨g+1,by go_num,by omega,by omega,hM1,mx,Zx⟩
   case round=>
    obtain ⟨wk,rfl⟩:∃ W,W=wr:=⟨wr,rfl⟩
    obtain ⟨k,rfl,hk1,hkG,hL,hmod,Z⟩:=hrel
    clear hM1 mx
    have S:=hs.no hmod
    have lL:=hL.some.lt
    have c2:=S.look.2.2.1
    have c6:=S.look.2.2.2.2.2.2.1
    by_cases hk:k < A.G
    ·have j0:(0:Int)≤k:=by omega
     have j1:(k:Int) < A.G:=by omega
     obtain ⟨p0,p1⟩:=S.st.gp hk
     by_cases hp:A.par k=g
     ·have e1:(A.par k !=(g:Int))=false:=by simp [hp]
      have HP:=Lib.hid hp
      clear hp
      go_wp2_with fail
      refine (HI.out.1 k c wk m ow B (by omega) hk hc S).mono ?_;rintro e w5 ⟨rfl,hb5⟩
      have m5:Mod No w w5:=Mod.trans hmod (Mod.of_below hb5 No) (fun _ _ h=> h)
      have L5:=hL.no (Mod.of_below hb5 No)
      have Z5:=Z.mod (Mod.of_below hb5 No) (fun h=> h)
      have S5:=hs.no m5
      have c5:=S5.look.2.2.2.2.2.2.1
      obtain ⟨s0,s1,s2,s3⟩:=S5.st.sp hk hc
      have lM5:m < w5.heap.size:=by have:=m5.size;omega
      have lso:=(S5.st.1 .so).2.lt
      have lsi:=(S5.st.1 (.si k) hk).2.lt
      clear c2 c6 p0 p1
      cases hm5:memb A d k c with
      |none=>
       have hE:=Lib.hid (mmb_skip HI.out.2.1 g c k (by omega) (.inr hm5))
       clear hm5
       simp only [lvv,lvl,Option.isSome_none]
       go_wp2
       refine ⟨⟨k+1,by go_num,by omega,by omega,by rw [hE.out];exact L5.no ((Mod.refl No w5).alloc _),m5.alloc _,Z5.alloc _⟩,by simp only [RowKit.intOf];omega⟩
      |some p5=>
       have hE:=Lib.hid (mmb_hit HI.out.2.1 g c k (by omega) hk HP.out (by rw [hm5];simp))
       rw [hE.out.1] at L5
       have lw5:w.heap.size≤w5.heap.size:=m5.size
       have hkk:(k:Int) < 256:=by omega
       clear hm5
       simp only [lvv,lvl,Option.isSome_some]
       go_wp2_with fail
       refine (least1_ok (w.heap.size+1+1) (w.heap.size+1) (A.spots k c).1 1 k (HI.out.2.2.sv k c) (by omega) _ (L5.no ((Mod.refl No w5).alloc _))).mono ?_;rintro e w6 ⟨rfl,L6,m6⟩
       have m6' :Mod No w w6:=Mod.trans (by (repeat first|(with_reducible exact m5)|(with_reducible refine Mod.alloc ?_ _)|(with_reducible refine Mod.drew ?_)|(with_reducible refine Mod.drewN ?_ _)|(with_reducible refine Mod.sc ?_))) m6 (fun b hb h=> by rcases h with h|h <;> omega)
       have Z6:=(Z5.alloc _).mod m6 (by rintro (h|h) <;> omega)
       go_wp2
       refine ⟨⟨k+1,by go_num,by omega,by omega,by rw [hE.out.2];exact L6,m6',Z6⟩,by simp only [RowKit.intOf];omega⟩
     ·have e1:(A.par k !=(g:Int))=true:=by simp;exact hp
      have hE:=Lib.hid (mmb_skip HI.out.2.1 g c k (by omega) (.inl hp))
      clear hp
      go_wp2
      refine ⟨⟨k+1,by go_num,by omega,by omega,by rw [hE.out];exact hL,hmod,Z⟩,by simp only [RowKit.intOf];omega⟩
    ·obtain rfl:k=A.G:=by omega
     have j1:(A.G:Int)≤A.G:=by omega
     have hE:=Lib.hid (mmb_last HI.out.2.1 g c)
     rw [hE.out] at hL
     go_upto_region 16 with fail
     have Lb:=hL.best
     have Ls:=hL.some
     have z0:=Z.cL 0 _ (by omega) rfl
     have z1:=Z.cL 1 _ (by omega) rfl
     have z2:=Z.cL 2 _ (by omega) rfl
     have zf0:=Z.free 0
     have zf1:=Z.free 1
     have zf2:=Z.free 2
     have lZ:=Z.lt
     cases hmm:memb A d g c with
     |none=>
      rw [hmm] at Lb Ls
      have b0:wk.cell? ⟨w.heap.size+1,0,none⟩=some (.int .u64 18446744073709551615):=Lb.cL 0 _ (by omega) rfl
      have b1:wk.cell? ⟨w.heap.size+1,1,none⟩=some (.int .u64 18446744073709551615):=Lb.cL 1 _ (by omega) rfl
      have b2:wk.cell? ⟨w.heap.size+1,2,none⟩=some (.int .u64 18446744073709551615):=Lb.cL 2 _ (by omega) rfl
      have s0:wk.cell? ⟨w.heap.size+1+1,0,none⟩=some (.bool false):=Ls.cL 0 _ (by omega) rfl
      have HM:=Lib.hid hmm
      clear hL Lb Ls hmm hE
      refine wp_region_chain (fun w' => w'.cell? ⟨w.heap.size+1,0,none⟩=some (.int .u64 18446744073709551615)∧w'.cell? ⟨w.heap.size+1,1,none⟩=some (.int .u64 18446744073709551615)∧w'.cell? ⟨w.heap.size+1,2,none⟩=some (.int .u64 18446744073709551615)∧w'.cell? ⟨w.heap.size+1+1,0,none⟩=some (.bool false)) [2] [] [] (rds [0,1] (.ef 2 (rds [3] .nil))) (by kernel_rfl) (by kernel_rfl) ⟨b0,b1,b2,s0⟩ ?_
      intro O hO
      have HO:=Lib.hid hO
      clear hO
      simp only [rds]
      (repeat (first|(refine lxp HO (v:=?_) (fun w'=> ?_) ?_;rotate_left;(focus (go_simp;(try exact rfl);done));try go_simp)|(refine lxr HO (v:=?_) (fun w' hC'=> ?_) ?_;rotate_left;(focus (obtain ⟨x1,x2,x3,x4⟩:=hC';go_simp;(try exact rfl);done));try go_simp)|(refine lxo HO ?_;try go_simp)))
      (refine lxe HO (fun K hK=> ?_);go_simp;refine hK _ _ ?_ ?_;all_goals clear hK K)
      ·exact .inr ⟨by go_simp,by go_simp,by go_simp,by go_simp⟩
      (repeat (first|(refine lxp HO (v:=?_) (fun w'=> ?_) ?_;rotate_left;(focus (go_simp;(try exact rfl);done));try go_simp)|(refine lxr HO (v:=?_) (fun w' hC'=> ?_) ?_;rotate_left;(focus (obtain ⟨x1,x2,x3,x4⟩:=hC';go_simp;(try exact rfl);done));try go_simp)|(refine lxo HO ?_;try go_simp)))
      refine wpL_nil ?_
      go_wp2
      refine bodyPost_ret (v:= .tuple #[.agg #[.int .u64 18446744073709551615, .int .u64 18446744073709551615, .int .u64 18446744073709551615], .bool false]) (by simp [results,Tryz.results160,go_sem, *]) rfl ⟨by rw [HM.out];rfl,Mod.below (by (repeat first|(with_reducible exact hmod)|(with_reducible refine Mod.alloc ?_ _)|(with_reducible refine Mod.drew ?_)|(with_reducible refine Mod.drewN ?_ _)|(with_reducible refine Mod.sc ?_)))⟩
     |some p=>
      rw [hmm] at Lb Ls
      have b0:wk.cell? ⟨w.heap.size+1,0,none⟩=some (.int .u64 p.1):=Lb.cL 0 _ (by omega) rfl
      have b1:wk.cell? ⟨w.heap.size+1,1,none⟩=some (.int .u64 p.2.1):=Lb.cL 1 _ (by omega) rfl
      have b2:wk.cell? ⟨w.heap.size+1,2,none⟩=some (.int .u64 p.2.2):=Lb.cL 2 _ (by omega) rfl
      have s0:wk.cell? ⟨w.heap.size+1+1,0,none⟩=some (.bool true):=Ls.cL 0 _ (by omega) rfl
      have HM:=Lib.hid hmm
      clear hL Lb Ls hmm hE
      refine wp_region_chain (fun w' => w'.cell? ⟨w.heap.size+1,0,none⟩=some (.int .u64 p.1)∧w'.cell? ⟨w.heap.size+1,1,none⟩=some (.int .u64 p.2.1)∧w'.cell? ⟨w.heap.size+1,2,none⟩=some (.int .u64 p.2.2)∧w'.cell? ⟨w.heap.size+1+1,0,none⟩=some (.bool true)) [2] [] [] (rds [0,1] (.ef 2 (rds [3] .nil))) (by kernel_rfl) (by kernel_rfl) ⟨b0,b1,b2,s0⟩ ?_
      intro O hO
      have HO:=Lib.hid hO
      clear hO
      simp only [rds]
      (repeat (first|(refine lxp HO (v:=?_) (fun w'=> ?_) ?_;rotate_left;(focus (go_simp;(try exact rfl);done));try go_simp)|(refine lxr HO (v:=?_) (fun w' hC'=> ?_) ?_;rotate_left;(focus (obtain ⟨x1,x2,x3,x4⟩:=hC';go_simp;(try exact rfl);done));try go_simp)|(refine lxo HO ?_;try go_simp)))
      (refine lxe HO (fun K hK=> ?_);go_simp;refine hK _ _ ?_ ?_;all_goals clear hK K)
      ·exact .inr ⟨by go_simp,by go_simp,by go_simp,by go_simp⟩
      (repeat (first|(refine lxp HO (v:=?_) (fun w'=> ?_) ?_;rotate_left;(focus (go_simp;(try exact rfl);done));try go_simp)|(refine lxr HO (v:=?_) (fun w' hC'=> ?_) ?_;rotate_left;(focus (obtain ⟨x1,x2,x3,x4⟩:=hC';go_simp;(try exact rfl);done));try go_simp)|(refine lxo HO ?_;try go_simp)))
      refine wpL_nil ?_
      go_wp2
      refine bodyPost_ret (v:= .tuple #[.agg #[.int .u64 p.1, .int .u64 p.2.1, .int .u64 p.2.2], .bool true]) (by simp [results,Tryz.results160,go_sem, *]) rfl ⟨by rw [HM.out];rfl,Mod.below (by (repeat first|(with_reducible exact hmod)|(with_reducible refine Mod.alloc ?_ _)|(with_reducible refine Mod.drew ?_)|(with_reducible refine Mod.drewN ?_ _)|(with_reducible refine Mod.sc ?_)))⟩
end
end Go.Q
namespace Go.Q
open Go.RowKit Go.Proofs
section
variable {A:ASt} {d:Nat}
theorem Ar_v (K k:Nat) (hv:VOk A):VOk (Ar A d K k):=by
 refine ⟨hv.tv,fun g c=> ?_⟩
 show (if _ then rsp A d g c else A.spots g c).1 < _
 split
 ·unfold rsp
  split
  ·exact hv.sv g c
  ·exact hv.sv g c
 ·exact hv.sv g c
set_option maxRecDepth 100000 in
set_option maxHeartbeats 1000000 in
theorem m_first (h:One1 A d) (hv:VOk A) (t:TK) (ht:A.task=some t) (c:Nat) (hc:t.cpu=c) (hcC:c < A.C) (w:World) (m:Nat) (ow:Nat→SOwn) (B:STB) (hs:MAt w m ow B A):
  Calls Tryz.prog 156 #[ptr m, .int .i64 c] w fun e w' => e= .returned (.int .i64 t.id)∧Below w.heap.size w w' :=by
 have hG:=h.T.g2
 have hG1:=h.T.g1
 obtain ⟨_,_,_,_,id0,id1⟩:=h.ok t ht
 have HI:=Lib.hid (And.intro h (And.intro ht (And.intro hc hv)))
 clear h ht hc hv
 go_enter Tryz.func156,Tryz.ntmps156
 go_wp2
 go_loopw [5] (fun s5 wr=> ∃ y:Nat,s5= .int .i64 y∧y < A.G∧memb A d y c≠none∧Mod No w wr) (fun s5 _=> A.G - (RowKit.intOf s5).toNat)
 case atStart=> exact ⟨0,rfl,by omega,memb_root HI.out.1 HI.out.2.1 HI.out.2.2.1,Mod.refl _ _⟩
 case round=>
  obtain ⟨wk,rfl⟩:∃ W,W=wr:=⟨wr,rfl⟩
  obtain ⟨y,rfl,hy,hm,hmod⟩:=hrel
  go_wp2_with fail
  refine (m_least HI.out.1 HI.out.2.2.2 256 y c wk m ow B (by omega) hy hcC (hs.no hmod)).mono ?_;rintro e w1 ⟨rfl,hb1⟩
  cases hp:memb A d y c with
  |none=> exact absurd hp hm
  |some p=>
   have m1:Mod No w w1:=Mod.trans hmod (Mod.of_below hb1 No) (fun _ _ h=> h)
   have hinv:=memb_inv HI.out.1 hp
   have hI:=Lib.hid (And.intro hp hinv)
   clear hp hinv hm
   simp only [lvv,lvl,Option.isSome_some]
   rcases hI.out.2 with ⟨t',e1,e2,e3,e4⟩|⟨x,hx0,hxG,hpx,hgx,hne,e4⟩
   ·have ht' :t' =t:=Option.some.inj (e1.symm.trans HI.out.2.1)
    subst ht'
    rw [e4]
    clear hI e1 e2 e3 e4
    go_wp2
    go_ret
    exact ⟨rfl,Mod.below (by (repeat first|(with_reducible exact m1)|(with_reducible refine Mod.alloc ?_ _)|(with_reducible refine Mod.drew ?_)|(with_reducible refine Mod.drewN ?_ _)|(with_reducible refine Mod.sc ?_)))⟩
   ·rw [e4]
    have hN:=Lib.hid hne
    have hx9:(x:Int) < 256:=by omega
    clear hI e4 hne hpx
    go_wp2
    refine ⟨⟨x,rfl,hxG,hN.out,by (repeat first|(with_reducible exact m1)|(with_reducible refine Mod.alloc ?_ _)|(with_reducible refine Mod.drew ?_)|(with_reducible refine Mod.drewN ?_ _)|(with_reducible refine Mod.sc ?_))⟩,by simp only [RowKit.intOf];omega⟩
def gpath (par:Nat→Int):Nat→Nat→List Nat
 |0,_=> []
 |d+1,g=> g::gpath par d (par g).toNat
theorem gpath_mem {par wt:Nat→Int} {G:Nat} (T:Tree G par wt):∀ (d g:Nat),g < G→Dep par g d→∀ x∈gpath par d g,0 < x∧x < G
 |0,_,_,_,x,hx=> by cases hx
 |d+1,g,hg,hd,x,hx=> by
  obtain ⟨h0,h1,h2⟩:=hd.up'
  have hp:=T.parOk g h0 hg
  rcases List.mem_cons.1 hx with rfl|hx
  ·exact ⟨h0,hg⟩
  ·exact gpath_mem T d _ (by omega) h2 x hx
set_option maxRecDepth 100000 in
set_option maxHeartbeats 1000000 in
theorem m_empty (h:One1 A d) (ht:A.task=none) (w:World) (m:Nat) (ow:Nat→SOwn) (B:STB) (hs:MAt w m ow B A) (g c n:Nat) (hg:g < A.G) (hc:c < A.C) (hd:Dep A.par g n) (hn4:n≤100) (hv:VOk A):
  Calls Tryz.prog 145 #[ptr m, .int .i64 g, .int .i64 c] w fun e w' => ∃ o k cp,e= .returned (.slice o k cp)∧Mod No w w' ∧w'.ownsRow w.heap.size 3 1 (.slice o k cp) (gpath A.par n g).length ((gpath A.par n g).map fun x=> .int .i64 (x:Nat)):=by
 have hG:=h.T.g2
 have mn:∀ y,memb A d y c=none:=fun y=> by unfold memb;rw [ht]
 have HI:=Lib.hid (And.intro h (And.intro ht (And.intro hv (And.intro hd mn))))
 have hT:=h.T
 have HT:=Lib.hid hT
 clear h ht hv mn hd hT
 go_enter Tryz.func145,Tryz.ntmps145
 go_wp2
 go_loopw [1,7] (fun s1 s7 wr=> ∃ (y k:Nat) (l:List Nat) (o:Option Addr) (cp:Nat),s1= .int .i64 y∧y < A.G∧Dep A.par y k∧gpath A.par n g=l++gpath A.par k y∧s7= .slice o l.length cp∧Mod No w wr∧wr.ownsRow w.heap.size 3 1 (.slice o l.length cp) l.length (l.map fun x=> .int .i64 (x:Nat))∧l.length+k≤100) (fun s1 _ _=> (RowKit.intOf s1).toNat)
 case atStart=> exact ⟨g,n, [],none,0,rfl,hg,HI.out.2.2.2.1,rfl,rfl,Mod.refl _ _,World.ownsRow_nil _ _ _ _,by simp;omega⟩
 case round=>
  obtain ⟨wk,rfl⟩:∃ W,W=wr:=⟨wr,rfl⟩
  obtain ⟨y,k,l,o,cp,rfl,hy,hk,hl,rfl,hmod,hO,hk4⟩:=hrel
  have HL:=Lib.hid (And.intro hl hk)
  by_cases hy0:0 < y
  ·have i0:(0:Int) < y:=by omega
   have i1:(y:Int) < A.G:=by omega
   have hp:=HT.out.parOk y hy0 hy
   obtain ⟨up,hup⟩:∃ up:Nat,A.par y=up:=⟨(A.par y).toNat,(Int.toNat_of_nonneg hp.1).symm⟩
   have hupy:up < y:=by have:=hp.2;omega
   obtain ⟨k',rfl⟩:∃ k',k=k' +1:=by
    cases k with
    |zero=> have:=hk.zero;omega
    |succ k' => exact ⟨k',rfl⟩
   have hl2:gpath A.par n g=(l++ [y])++gpath A.par k' up:=by rw [hl];simp only [gpath,hup];simp
   have hk2:Dep A.par up k' :=by have:=hk.up'.2.2;rw [hup] at this;simpa using this
   have HU:=Lib.hid (And.intro hup (And.intro hl2 hk2))
   clear hup hp hl hk hl2 hk2
   go_wp2_with fail
   refine (m_least HI.out.1 HI.out.2.2.1 256 y c wk m ow B (by omega) hy hc (hs.no hmod)).mono ?_;rintro e w1 ⟨rfl,hb1⟩
   rw [HI.out.2.2.2.2]
   simp only [lvv,lvl,Option.isSome_none]
   have n1:Mod No wk w1:=Mod.of_below hb1 No
   have m1:Mod No w w1:=Mod.trans hmod n1 (fun _ _ h=> h)
   have hO1:=ownsRow_mod hO n1 (fun _ _ h=> h)
   have S1:=hs.no m1
   have c2:=S1.look.2.2.1
   obtain ⟨p0,p1⟩:=S1.st.gp hy
   rw [HU.out.1] at p0
   have lM:=S1.row.lt
   have lG:=(S1.st.1 .gb).2.lt
   have hzw:=m1.size
   go_wp2_with (at_builtin;go_must (refine wpList_app_c 3 _ 1 8 Tryz.infoInt rfl _ _ 44 rfl Tryz.underlying44 rfl (by decide) (by decide) [.int .i64 y] rfl (by simp [Value.oneCell']) w.heap.size (.slice o l.length cp) l.length (l.map fun x=> .int .i64 (x:Nat)) _ _ rfl rfl ?_ ?_ ?_ ?_ ?_);go_must (· simp;omega);go_must (· omega);go_must (· (repeat first|(with_reducible exact hO1)|(with_reducible refine World.ownsRow.drew ?_)|(with_reducible refine World.ownsRow.alloc ?_ _)));go_must (· exact row_one _ _ _ _ (by simp));go_must (intro gs ct wA hA);go_must (have mA:Mod No w wA:=Mod.trans (Mod.trans m1 (((Mod.refl No w1).alloc _).alloc _) (fun _ _ h=> h)) hA.mod (fun b hb e=> by have:=(hO1.lt _ e).1;omega));go_must (have SA:=hs.no mA);go_must (have a2:=SA.look.2.2.1);go_must (have a0:=(SA.st.gp hy).1);go_must (rw [HU.out.1] at a0);go_must (have lMA:=SA.row.lt);have lGA:=(SA.st.1 .gb).2.lt)
   refine ⟨⟨up,k',l++ [y],some ⟨gs,0,none⟩,ct,rfl,by omega,HU.out.2.2,HU.out.2.1,by simp,mA,by rw [show (l++ [y]).length=l.length+1 from by simp,List.map_append];exact hA.own,by simp;omega⟩,by simp only [RowKit.intOf];omega⟩
  ·obtain rfl:y=0:=by omega
   clear hl hk
   go_wp2
   go_ret
   obtain ⟨hl,hk⟩:=HL.out
   have hk0:k=0:=by
    cases k with
    |zero=> rfl
    |succ k=> have:=hk.up'.1;omega
   subst hk0
   have hl' :gpath A.par n g=l:=by rw [hl];simp [gpath]
   rw [hl']
   exact ⟨o,l.length,cp,rfl,hmod,hO⟩
set_option maxRecDepth 100000 in
set_option maxHeartbeats 4000000 in
theorem m_rise (h:One1 A d) (hv:VOk A) (w:World) (m:Nat) (ow:Nat→SOwn) (B:STB) (hs:MAt w m ow B A) (hC:0 < A.C) (hC2:A.C≤64):
  Calls Tryz.prog 82 #[ptr m] w fun e w' => e= .returned (.tuple #[])∧MAt w' m ow B { A with spots:=rsp A d }∧Mod (fun b=> ow b≠ .no) w w' :=by
 have HI:=Lib.hid (And.intro h hv)
 have hG:=h.T.g2
 have hG1:=h.T.g1
 have hown:=hs.own
 have HM:=Lib.hid hs.row
 clear h hv
 have c6:=hs.look.2.2.2.2.2.2.1
 go_enter Tryz.func82,Tryz.ntmps82
 go_wp2
 go_loopw [13] (fun s13 wr=> ∃ K:Nat,s13= .int .i64 K∧K≤A.G∧StAt wr ow B (Ar A d K 0)∧Mod (fun b=> ow b≠ .no) w wr) (fun s13 _=> A.G - (RowKit.intOf s13).toNat)
 case atStart=> exact ⟨0,rfl,by omega,hs.st.spots_congr _ (fun g c _ _=> by rw [if_neg (by omega)]),Mod.refl _ _⟩
 case round=>
  obtain ⟨wg,rfl⟩:∃ W,W=wr:=⟨wr,rfl⟩
  obtain ⟨K,rfl,hKG,Sg,mg⟩:=hrel
  by_cases hK:K < A.G
  ·have i0:(0:Int)≤K:=by omega
   have i1:(K:Int) < A.G:=by omega
   have q:wg.cell? ⟨B.so,K,none⟩=some (slc (B.si K) A.C (B.sc K)):=(Sg.sp (g:=K) (c:=0) hK hC).1
   go_wp2
   go_loopw [20] (fun s20 wr=> ∃ c:Nat,s20= .int .i64 c∧c≤A.C∧StAt wr ow B (Ar A d K c)∧Mod (fun b=> ow b≠ .no) w wr) (fun s20 _=> A.C - (RowKit.intOf s20).toNat)
   case atStart=> exact ⟨0,rfl,by omega,Sg,mg⟩
   case round=>
   obtain ⟨wk,rfl⟩:∃ W,W=wr:=⟨wr,rfl⟩
   obtain ⟨c,rfl,hcC,Sk,mk⟩:=hrel
   clear Sg mg q
   by_cases hc:c < A.C
   ·have j0:(0:Int)≤c:=by omega
    have j1:(c:Int) < A.C:=by omega
    have spK:(Ar A d K c).spots K c=A.spots K c:=by show (if _ then _ else _)=_;rw [if_neg (by omega)]
    have MK:MAt wk m ow B (Ar A d K c):=⟨HM.out.mod mk (by rw [hown];simp),hown,Sk⟩
    have mS:∀ w',Mod No wk w' →w'.cell? ⟨B.si K,c * 3+2,none⟩=some (.int .u64 (A.spots K c).2.2):=fun w' hm=> by
     have q:=((Sk.no hm).sp (g:=K) (c:=c) hK hc).2.2.2
     rw [spK] at q
     exact q
    go_wp2_with fail
    refine (m_least (Ar_one HI.out.1 K c) (Ar_v K c HI.out.2) 256 K c wk m ow B (by show A.G - K≤256;omega) hK hc MK).mono ?_;rintro e w5 ⟨rfl,hb5⟩
    rw [Ar_memb]
    have m5:Mod No wk w5:=Mod.of_below hb5 No
    have S5:=Sk.no m5
    cases hp:memb A d K c with
    |none=>
     have hr:rsp A d K c=A.spots K c:=by unfold rsp;rw [hp]
     have HR:=Lib.hid hr
     clear hp hr
     simp only [lvv,lvl,Option.isSome_none]
     go_wp2
     refine ⟨⟨c+1,by go_num,by omega, ?_,Mod.trans mk ((m5.alloc _).no _) (fun _ _ h=> h)⟩,by simp only [RowKit.intOf];omega⟩
     refine (S5.no ((Mod.refl No w5).alloc _)).spots_congr (fun g c' => if g < K∨(g=K∧c' < c+1) then rsp A d g c' else A.spots g c') (fun g c' hg hc' => ?_)
     show (if g < K∨(g=K∧c' < c) then rsp A d g c' else A.spots g c')=_
     by_cases e:g=K∧c' =c
     ·obtain ⟨rfl,rfl⟩:=e
      rw [if_neg (by omega),if_pos (by omega),HR.out]
     ·have:(g < K∨(g=K∧c' < c))↔(g < K∨(g=K∧c' < c+1)):=by omega
      simp only [this]
    |some p=>
     have hr:rsp A d K c=((A.spots K c).1,(A.spots K c).2.1,mxI (A.spots K c).2.2 p.1):=by unfold rsp;rw [hp]
     have HR:=Lib.hid hr
     clear hp hr
     simp only [lvv,lvl,Option.isSome_some]
     go_upto_region 8 with fail
     refine wp_world (fun V=> Mod No wk V∧Row V w5.heap.size 3 (fl [.int .u64 p.1, .int .u64 p.2.1, .int .u64 p.2.2])) ⟨m5.alloc _,row_newL w5 [_,_,_] _⟩ ?_
     intro V ⟨mV,XV⟩
     obtain ⟨xb,hxb⟩:∃ n,n=w5.heap.size:=⟨_,rfl⟩
     rw [←hxb] at XV ⊢
     clear hxb
     have lXV:=XV.lt
     have lsi:=((Sk.no mV).1 (.si K) hK).2.lt
     refine wp_region_chain (fun w' => w'.cell? ⟨B.si K,c * 3+2,none⟩=some (.int .u64 (A.spots K c).2.2)∧w'.cell? ⟨xb,0,none⟩=some (.int .u64 p.1)∧w'.cell? ⟨xb,1,none⟩=some (.int .u64 p.2.1)∧w'.cell? ⟨xb,2,none⟩=some (.int .u64 p.2.2)) [8,12] [10,11] [12] (rds [0,1,2,3,4,5,6,7] (.ef 8 (rds [9,10,11] (.ef 12 .nil)))) (by kernel_rfl) (by kernel_rfl) ⟨mS _ mV.drew,XV.cL 0 _ (by omega) rfl,XV.cL 1 _ (by omega) rfl,XV.cL 2 _ (by omega) rfl⟩ ?_
     intro O hO
     have HO:=Lib.hid hO
     clear hO
     simp only [rds]
     (repeat (first|(refine lxp HO (v:=?_) (fun w'=> ?_) ?_;rotate_left;(focus (go_simp;(try exact rfl);done));try go_simp)|(refine lxr HO (v:=?_) (fun w' hC'=> ?_) ?_;rotate_left;(focus (obtain ⟨c1,c2,c3,c4⟩:=hC';go_simp;(try exact rfl);done));try go_simp)|(refine lxo HO ?_;try go_simp)))
     refine lxe HO (fun Kx hKx=> ?_)
     go_simp
     refine (m_v p.1 p.2.1 p.2.2 _).mono ?_;rintro e w7 ⟨rfl,hb7⟩
     have n7:Mod No V w7:=Mod.trans (Mod.refl No V).drew (Mod.of_below hb7 No) (fun _ _ h=> h)
     have m7:Mod No wk w7:=Mod.trans mV n7 (fun _ _ h=> h)
     have S7:=Sk.no m7
     have X7:=XV.mod n7 (fun h=> h)
     have fr:=(S7.1 (.si K) hK).2.free (c * 3+2)
     have lsi7:=(S7.1 (.si K) hK).2.lt
     have r1:=mS w7 m7
     have lX7:=X7.lt
     refine hKx _ _ (.inr ⟨r1,X7.cL 0 _ (by omega) rfl,X7.cL 1 _ (by omega) rfl,X7.cL 2 _ (by omega) rfl⟩) ?_
     clear hKx Kx
     have S8:=S7.setFloor (g:=K) (c:=c) hK hc (mxI (A.spots K c).2.2 p.1)
     have m8:=S7.modSi (g:=K) hK (c * 3+2) (.int .u64 (mxI (A.spots K c).2.2 p.1))
     have S9:StAt (w7.setCell ⟨B.si K,c * 3+2,none⟩ (.int .u64 (mxI (A.spots K c).2.2 p.1))) ow B (Ar A d K (c+1)):=S8.spots_congr (fun g c' => if g < K∨(g=K∧c' < c+1) then rsp A d g c' else A.spots g c') (fun g c' hg hc' => by
      show upd2 (Ar A d K c).spots K c (((Ar A d K c).spots K c).1,((Ar A d K c).spots K c).2.1,mxI (A.spots K c).2.2 p.1) g c' =_
      by_cases e:g=K∧c' =c
      ·obtain ⟨rfl,rfl⟩:=e
       rw [upd2_same,spK,if_pos (by omega),HR.out]
      ·rw [upd2_other _ _ _ _ _ _ e]
       show (if g < K∨(g=K∧c' < c) then rsp A d g c' else A.spots g c')=_
       have:(g < K∨(g=K∧c' < c))↔(g < K∨(g=K∧c' < c+1)):=by omega
       simp only [this])
     have hmx:mxI (A.spots K c).2.2 p.1=max (A.spots K c).2.2 p.1:=by unfold mxI;split <;> omega
     rw [hmx] at S9 m8
     have HS:=Lib.hid (And.intro S9 m8)
     clear S8 S9 m8 hmx
     (repeat (first|(refine lxp HO (v:=?_) (fun w'=> ?_) ?_;rotate_left;(focus (go_simp;(try exact rfl);done));try go_simp)|(refine lxr HO (v:=?_) (fun w' hC'=> ?_) ?_;rotate_left;(focus (obtain ⟨c1,c2,c3,c4⟩:=hC';go_simp;(try exact rfl);done));try go_simp)|(refine lxo HO ?_;try go_simp)))
     (refine lxe HO (fun K hK=> ?_);go_simp;refine hK _ _ (.inl (by rfl)) ?_;clear hK K)
     refine wpL_nil ?_
     clear r1 fr
     go_wp2
     refine ⟨⟨c+1,by go_num,by omega,HS.out.1,Mod.trans mk (Mod.trans (m7.no _) HS.out.2 (fun _ _ h=> h)) (fun _ _ h=> h)⟩,by simp only [RowKit.intOf];omega⟩
   ·obtain rfl:c=A.C:=by omega
    have j1:(A.C:Int)≤A.C:=by omega
    go_wp2
    have S6:StAt wk ow B (Ar A d (K+1) 0):=Sk.spots_congr (fun g c' => if g < K+1∨(g=K+1∧c' < 0) then rsp A d g c' else A.spots g c') (fun g c' hg hc' => by
     have hc2:c' < A.C:=hc'
     show (if g < K∨(g=K∧c' < A.C) then rsp A d g c' else A.spots g c')=_
     have:(g < K∨(g=K∧c' < A.C))↔(g < K+1∨(g=K+1∧c' < 0)):=by omega
     simp only [this])
    refine ⟨⟨K+1,by go_num,by omega,S6,mk⟩,by simp only [RowKit.intOf];omega⟩
  ·obtain rfl:K=A.G:=by omega
   have i1:(A.G:Int)≤A.G:=by omega
   go_wp2
   go_end0
   refine ⟨rfl,⟨HM.out.mod mg (by rw [hown];simp),hown,Sg.spots_congr (rsp A d) (fun g c hg hc=> ?_)⟩,mg⟩
   show (if g < A.G∨(g=A.G∧c < 0) then rsp A d g c else A.spots g c)=_
   rw [if_pos (.inl hg)]
end
end Go.Q
namespace Go.Q
open Go.RowKit Go.Proofs
set_option maxRecDepth 100000 in
theorem shaped1_ok (n:Int) (h0:0≤n) (h1:n≤281474976710656) (w:World):Calls Tryz.prog 278 #[.int .i64 n] w fun e w' => e= .returned (.bool false)∧w=w' :=by
 go_enter Tryz.func278,Tryz.ntmps278
 go_wp2
 go_ret
 exact ⟨by simp;omega,rfl⟩
set_option maxRecDepth 100000 in
theorem indexI_ok (b m c:Nat) (f:Nat→Int) (w:World) (R:Row w b m (ints f)) (hm64:m≤64) (hf:∀ i,i < m→0≤f i∧f i≤281474976710656):Calls Tryz.prog 298 #[slc b m c, .func (.func 278) #[] #[]] w fun e w' => e= .returned (.int .i64 (-1))∧Below w.heap.size w w' :=by
 have HF:=Lib.hid hf
 clear hf
 go_enter Tryz.func298,Tryz.ntmps298
 go_wp2
 go_loopw [8] (fun s8 wr=> ∃ k:Nat,s8= .int .i64 k∧k≤m∧Mod No w wr) (fun s8 _=> m - (RowKit.intOf s8).toNat)
 case atStart=> exact ⟨0,rfl,by omega,Mod.refl _ _⟩
 case round=>
  obtain ⟨wk,rfl⟩:∃ W,W=wr:=⟨wr,rfl⟩
  obtain ⟨k,rfl,hk,hm⟩:=hrel
  by_cases hkm:k < m
  ·have j0:(0:Int)≤k:=by omega
   have j1:(k:Int) < m:=by omega
   have q:wk.cell? ⟨b,k,none⟩=some (.int .i64 (f k)):=(R.mod hm (fun h=> h)).cell hkm
   go_wp2_with fail
   refine (shaped1_ok (f k) (HF.out k hkm).1 (HF.out k hkm).2 _).mono ?_;rintro e w1 ⟨rfl,rfl⟩
   go_wp2
   refine ⟨⟨k+1,by go_num,by omega,hm⟩,by simp only [RowKit.intOf];omega⟩
  ·obtain rfl:k=m:=by omega
   have j1:(k:Int)≤k:=by omega
   go_wp2
   go_ret
   exact ⟨rfl,Mod.below hm⟩
set_option maxRecDepth 100000 in
theorem containsI_ok (b m c:Nat) (f:Nat→Int) (w:World) (R:Row w b m (ints f)) (hm64:m≤64) (hf:∀ i,i < m→0≤f i∧f i≤281474976710656):Calls Tryz.prog 277 #[slc b m c, .func (.func 278) #[] #[]] w fun e w' => e= .returned (.bool false)∧Below w.heap.size w w' :=by
 go_enter Tryz.func277,Tryz.ntmps277
 go_wp2_with fail
 refine (indexI_ok b m c f w R hm64 hf).mono ?_;rintro e w1 ⟨rfl,hb1⟩
 go_wp2
 go_ret
 exact ⟨rfl,hb1⟩
set_option maxRecDepth 100000 in
set_option maxHeartbeats 2000000 in
theorem rightTask_ok (B:STB) (A:ASt) (hC:A.C=64) (id g k mask v r:Int) (c:Nat) (rd:Bool) (o5:Option Addr) (n5 d5:Nat) (h0:1≤id) (h1:id < 65536) (g0:0≤g) (g1:g < A.G) (hc:c < A.C) (hk0:1≤k) (hk1:k≤65536) (hm0:0≤mask) (hm2:mask < 18446744073709551616) (hm3:bits BinOp.and IntKind.u64 (mask / 2 ^ c) 1=1) (hE:REnt v r k) (w:World):
  Calls Tryz.prog 279 #[.agg #[.int .i64 A.C, .int .u64 A.cr,slc B.gb A.G B.gcap,slc B.cl A.C B.ccap,slc B.cu A.C B.ucap, .slice o5 n5 d5,slc B.so A.G B.scap], .agg #[.int .i64 id, .int .i64 g, .int .i64 k, .int .i64 c, .int .u64 mask, .bool rd, .int .u64 v, .int .u32 r]] w fun e w' => e= .returned (.bool true)∧Below w.heap.size w w' :=by
 have i0:(0:Int)≤c:=by omega
 have i1:(c:Int) < A.C:=by omega
 have i4:id≤65535:=by omega
 have i5:c < 64:=by omega
 have i6:(c:Int) < 64:=by omega
 have k6:(bits BinOp.and IntKind.u64 (mask / 2 ^ c) 1==1)=true:=by rw [hm3];rfl
 have HI:=Lib.hid (And.intro hC (And.intro hm2 (And.intro hm3 hE)))
 clear hC hm2 hm3 hE
 go_enter Tryz.func279,Tryz.ntmps279
 go_wp2_with fail
 refine (m_weighs k hk0 hk1 _).mono ?_;rintro e w1 ⟨rfl,rfl⟩
 go_wp2_with fail
 refine (show Calls Tryz.prog 143 #[.int .u64 mask, .int .i64 A.C] _ _ from by rw [HI.out.1];exact m_wide mask hm0 HI.out.2.1 _).mono ?_;rintro e w1 ⟨rfl,rfl⟩
 go_wp2_with fail
 refine (m_entity v r k hk0 hk1 _).mono ?_;rintro e w2 ⟨rfl,hb2⟩
 go_wp2_with fail
 refine (right_yes v r k HI.out.2.2.2 _).mono ?_;rintro e w3 ⟨rfl,rfl⟩
 go_wp2
 go_ret
 refine ⟨by simp, ?_⟩
 exact Mod.below (Mod.alloc (Mod.trans (((Mod.refl No w).alloc _).alloc _) (Mod.of_below hb2 No) (fun _ _ h=> h)) _)
end Go.Q
