/- A part of the proof that TopGreat answers true: what some of the functions on its road compute. -/
import Derived.Tactics2
import Derived.Recover
import Derived.Laws.Pointers
import Derived.Test.YtckddephdbhagaaGreatDoorQ5
import Derived.Test.YtckddephdbhagaaGreatDoorQ7
import Derived.Test.YtckddephdbhagaaGreatDoorQ8
import Derived.Test.YtckddephdbhagaaGreatDoorQ17
import Derived.Test.YtckddephdbhagaaGreatDoorQ24
import Derived.Test.YtckddephdbhagaaGreatDoorQ29
set_option linter.unusedVariables false
set_option linter.unusedSimpArgs false
set_option linter.unnecessarySimpa false
namespace Go.Q
open Go.RowKit Go.Proofs
theorem walk1_ok (p:Nat) (x:Int) (w:World) (hc:w.cell? ⟨p,0,none⟩=some (.int .i64 x)) (hz:w.frozen? ⟨p,0,none⟩=false):
  CallsD Tryz.prog 239 #[ptr p] .returning w fun e u' w' => e= .returned (.tuple #[])∧u' = .returning∧w' =w.setCell ⟨p,0,none⟩ (.int .i64 0):=by
 have hta:∀ W,(Instr.typeAssert .nilIface 20 52 true).run Tryz.prog W= .ok (.tuple #[.int .i64 0, .bool false]) W:=fun W=> by kernel_rfl
 refine callsD_of_wpS Tryz.func239 rfl fun c₀ cs hu=> ?_
 apply wpS_seq
 apply wpS_region
 simp [wpOpsS,go_sem,recoverD,hu,Tryz.ntmps239,Exit.thenS]
 refine wpS_of_wp ?_
 rw [show (#[ptr p]++((Array.replicate 17 undef).setIfInBounds 3 Value.nilIface).setIfInBounds 0 Value.nilIface)= #[ptr p, .nilIface,undef,undef, .nilIface,undef,undef,undef,undef,undef,undef,undef,undef,undef,undef,undef,undef,undef] from rfl]
 go_wp2
 cases c₀
 simp_all [bodyPostS,results,Tryz.results239]
theorem RI.off {w0:World} {r tb N cap:Nat} {ns:List Nat} {k o j:Nat} {w:World} (I:RI w0 r tb N cap ns k o j w):∃ nv sv,Row w r 4 (fl [slc tb N cap, .int .i64 (o:Nat),nv,sv]):=by
 obtain ⟨⟨nv,n,sv,m,l,R,_⟩,_⟩:=I
 exact ⟨nv,sv,R⟩
theorem skip_ok' {w0:World} {r tb N cap:Nat} {ns:List Nat} (F:RdFix w0 r tb N cap ns) (k j n:Nat) (v:Int) (hv:v=(n:Int)) (hn:k+n≤ns.length) (w:World) (I:RI w0 r tb N cap ns k (offs ns k) j w):
  Calls Tryz.prog 243 #[ptr r, .int .i64 v] w fun e w' => e= .returned (.tuple #[])∧RI w0 r tb N cap ns (k+n) (offs ns (k+n)) j w' :=hv▸skip_ok F k j n hn w I
set_option maxRecDepth 100000 in
set_option maxHeartbeats 2000000 in
theorem walk_ok {r tb N cap:Nat} {ns:List Nat} (C G tn:Nat) (w:World) (F:RdFix w r tb N cap ns) (R0:Row w r 4 (fl [slc tb N cap, .int .i64 0, .slice none 0 0, .slice none 0 0]))
  (e1:ns[1]? =some C) (e3:ns[3]? =some G) (et:ns[4+2 * (G - 1)+C+C]? =some tn) (hC1:1≤C) (hC2:C≤64) (hG1:1≤G) (hG2:G≤256) (htn:tn≤1) (hlen:ns.length=4+2 * (G - 1)+C+C+1+8 * tn+(C+3 * C * (G - 1))):
  Calls Tryz.prog 181 #[ptr r] w fun e w' => e= .returned (.int .i64 0)∧Mod (One r) w w' ∧∃ nv n oo sv,Row w' r 4 (fl [slc tb N cap,oo,nv,sv])∧w'.ownsRow w.heap.size 37 1 nv n (ul ns):=by
 have hmf:∀ (fn:Fn) (first cap:Array Value) (w:World),(Instr.makeFunc fn first cap).run Tryz.prog w= .ok (.func fn first cap) w:=fun _ _ _ _=> rfl
 have lr:=F.hr
 have e0:∃ x,ns[0]? =some x:=⟨_,List.getElem?_eq_getElem (by omega)⟩
 obtain ⟨x0,e0⟩:=e0
 have e2:∃ x,ns[2]? =some x:=⟨_,List.getElem?_eq_getElem (by omega)⟩
 obtain ⟨x2,e2⟩:=e2
 have c1:=R0.cL 1 _ (by omega) rfl
 have f1:=R0.free 1
 have hP0:3 * C * (G - 1)≤192 * 255:=Nat.mul_le_mul (by omega) (by omega)
 have hP:3 * (C:Int) * ((G:Int) - 1)=((3 * C * (G - 1):Nat):Int):=by
  rw [Int.natCast_mul,Int.natCast_mul,show ((G - 1:Nat):Int)=(G:Int) - 1 from by omega];rfl
 have hPw:IntKind.i64.wrap (3 * (C:Int) * ((G:Int) - 1))=3 * (C:Int) * ((G:Int) - 1):=by rw [IntKind.wrap_i64];omega
 have hPw2:IntKind.i64.wrap ((C:Int)+3 * (C:Int) * ((G:Int) - 1))=(C:Int)+3 * (C:Int) * ((G:Int) - 1):=by rw [IntKind.wrap_i64];omega
 have b1:(C:Int)≤64:=by omega
 have b2:(G:Int)≤256:=by omega
 have b3:(tn:Int)≤1:=by omega
 have b4:(1:Int)≤G:=by omega
 have HP:=Lib.hid hP
 clear hP
 go_enter_defers Tryz.func181,Tryz.ntmps181
 go_upto_region 3 with fail
 refine wp_world (fun W=> RdFix W r tb N cap ns∧RI W r tb N cap ns 0 (offs ns 0) 0 W∧Mod (One r) w W∧Row W w.heap.size 1 (fl [.int .i64 0])) ?_ ?_
 ·have m1:Mod (One r) w _:=(Mod.setCell (Mod.refl (One r) w) (p:=⟨r,1,none⟩) (.inr (show One r r from rfl)) (.int .i64 3)).alloc (.cells #[.int .i64 0] 52)
  have hz:=m1.size
  have RR:Row _ r 4 (fl [slc tb N cap, .int .i64 (offs ns 0:Nat), .slice none 0 0, .slice none 0 0]):=((R0.set (i:=1) (by omega) (.int .i64 3)).congr (fun i hi=> by
   rcases (by omega:i=0∨i=1∨i=2∨i=3) with rfl|rfl|rfl|rfl <;> rfl)).alloc (.cells #[.int .i64 0] 52)
  exact ⟨⟨RR.lt,F.hbr,F.hN,F.hN2,F.hcap,F.hns,F.hnl,F.RB.mod (S:=One r) m1 F.hbr⟩,⟨⟨.slice none 0 0,0, .slice none 0 0,0, [],RR,World.ownsRow_nil _ _ _ _,World.ownsRow_nil _ _ _ _,rfl,fun b h=> by simp [Value.ownBlock] at h⟩,Mod.refl _ _⟩,m1,row_one _ _ _ _ (by simp)⟩
 intro W1 ⟨F1,I0,mW,RP⟩
 clear c1 f1 R0
 have lP:=RP.lt
 --BEGIN
 go_wp2_with fail
 refine (end_ok F1 (0) _ 0 (by omega) _ _ I0).mono ?_;rintro e v1 ⟨rfl,I1⟩
 go_wp2_with fail
 refine (num_ok F1 0 1 _ e0 _ I1).mono ?_;rintro e v2 ⟨rfl,I2⟩
 go_wp2_with fail
 refine (end_ok F1 (1) _ 1 (by omega) _ _ I2).mono ?_;rintro e v3 ⟨rfl,I3⟩
 go_wp2_with fail
 refine (count_ok F1 1 2 C 1 64 e1 (by omega) (by omega) (by omega) _ I3).mono ?_;rintro e v4 ⟨rfl,I4⟩
 go_wp2_with fail
 refine (num_ok F1 2 2 _ e2 _ I4).mono ?_;rintro e v5 ⟨rfl,I5⟩
 go_wp2_with fail
 refine (count_ok F1 3 2 G 1 256 e3 (by omega) (by omega) (by omega) _ I5).mono ?_;rintro e v6 ⟨rfl,I6⟩
 go_wp2_with fail
 refine (end_ok F1 (4) _ 2 (by omega) _ _ I6).mono ?_;rintro e v7 ⟨rfl,I7⟩
 go_wp2_with fail
 refine (skip_ok' F1 (4) 3 (2 * (G - 1)) _ (by have:=HP.out;omega) (by omega) _ I7).mono ?_;rintro e v8 ⟨rfl,I8⟩
 go_wp2_with fail
 refine (end_ok F1 (4+2 * (G - 1)) _ 3 (by omega) _ _ I8).mono ?_;rintro e v9 ⟨rfl,I9⟩
 go_wp2_with fail
 refine (skip_ok' F1 (4+2 * (G - 1)) 4 (C) _ (by have:=HP.out;omega) (by omega) _ I9).mono ?_;rintro e v10 ⟨rfl,I10⟩
 go_wp2_with fail
 refine (end_ok F1 (4+2 * (G - 1)+C) _ 4 (by omega) _ _ I10).mono ?_;rintro e v11 ⟨rfl,I11⟩
 go_wp2_with fail
 refine (skip_ok' F1 (4+2 * (G - 1)+C) 5 (C) _ (by have:=HP.out;omega) (by omega) _ I11).mono ?_;rintro e v12 ⟨rfl,I12⟩
 go_wp2_with fail
 refine (end_ok F1 (4+2 * (G - 1)+C+C) _ 5 (by omega) _ _ I12).mono ?_;rintro e v13 ⟨rfl,I13⟩
 go_wp2_with fail
 refine (count_ok F1 (4+2 * (G - 1)+C+C) 6 tn 0 65535 et (by omega) (by omega) (by omega) _ I13).mono ?_;rintro e v14 ⟨rfl,I14⟩
 go_wp2_with fail
 refine (skip_ok' F1 (4+2 * (G - 1)+C+C+1) 6 (8 * tn) _ (by have:=HP.out;omega) (by omega) _ I14).mono ?_;rintro e v15 ⟨rfl,I15⟩
 go_wp2_with fail
 refine (end_ok F1 (4+2 * (G - 1)+C+C+1+8 * tn) _ 6 (by omega) _ _ I15).mono ?_;rintro e v16 ⟨rfl,I16⟩
 go_wp2_with fail
 refine (skip_ok' F1 (4+2 * (G - 1)+C+C+1+8 * tn) 7 ((C+3 * C * (G - 1))) _ (by have:=HP.out;omega) (by omega) _ I16).mono ?_;rintro e v17 ⟨rfl,I17⟩
 go_wp2_with fail
 refine (end_ok F1 (4+2 * (G - 1)+C+C+1+8 * tn+(C+3 * C * (G - 1))) _ 7 (by omega) _ _ I17).mono ?_;rintro e v18 ⟨rfl,I18⟩
 --END
 have hkk:4+2 * (G - 1)+C+C+1+8 * tn+(C+3 * C * (G - 1))=ns.length:=hlen.symm
 rw [hkk,offs_all,←F.hN] at I18
 obtain ⟨⟨nv,n,sv,m,l,R8,hO8,hS8,hl8,hd8⟩,hm8⟩:=I18
 have lR8:=R8.lt
 have c0:=R8.cL 0 _ (by omega) rfl
 have c1:=R8.cL 1 _ (by omega) rfl
 have f1:=R8.free 1
 have hN5:(N:Int)≤1000000:=by have:=F.hN2;omega
 go_upto_region 20 with fail
 go_quiet (fail)
 go_upto_region 23 with fail
 have npr:w.heap.size≠r:=by omega
 refine wp_world (fun W=> RI W1 r tb N cap ns ns.length (N+4) 8 W) ?_ ?_
 ·have m1:∀ q,Mod (One r) v18 ((v18.drewN q).setCell ⟨r,1,none⟩ (.int .i64 ((N:Int)+4))):=fun q=> Mod.setCell ((Mod.refl (One r) v18).drewN q) (p:=⟨r,1,none⟩) (.inr (show One r r from rfl)) (.int .i64 ((N:Int)+4))
  have nO:∀ b,nv.ownBlock=some b→¬One r b:=fun b hb e=> by have:=(hO8.lt b hb).1;have:=F1.hr;have:b=r:=e;omega
  have nS:∀ b,sv.ownBlock=some b→¬One r b:=fun b hb e=> by have:=(hS8.lt b hb).1;have:=F1.hr;have:b=r:=e;omega
  refine ⟨⟨nv,n,sv,m,l, ?_,ownsRow_mod hO8 (m1 _) nO,ownsRow_mod hS8 (m1 _) nS,hl8,hd8⟩,Mod.trans hm8 (m1 _) (fun _ _ h=> h)⟩
  refine ((R8.drewN _).set (i:=1) (by omega) _).congr (fun i hi=> ?_)
  rcases (by omega:i=0∨i=1∨i=2∨i=3) with rfl|rfl|rfl|rfl <;> rfl
 intro W2 I19
 clear c0 c1 f1 R8 hO8 hS8 hl8 hd8 lR8 hm8
 go_wp2_with fail
 refine (end_ok F1 ns.length _ 8 (by omega) _ _ I19).mono ?_;rintro e v20 ⟨rfl,⟨nv,n,sv,m,l,R9,hO9,hS9,hl9,hd9⟩,hm9⟩
 have RP9:=RP.mod hm9 npr
 have lP9:=RP9.lt
 have p0:=RP9.cL 0 _ (by omega) rfl
 have pz:=RP9.free 0
 go_wp2
 refine leaves_cons (f:=239) (args:= #[ptr w.heap.size]) (by simp) (by simp [go_sem]) ?_
 have RPx:=RP9.set (i:=0) (by omega) (.int .i64 0)
 refine (walk1_ok w.heap.size 0 _ (RPx.cell (i:=0) (by omega)) (RPx.free 0)).mono ?_
 rintro e u' w'' ⟨rfl,rfl,rfl⟩
 have RPy:=RPx.set (i:=0) (by omega) (.int .i64 0)
 have y0:_=some (Value.int .i64 0):=RPy.cell (i:=0) (by omega)
 have mp:=Mod.setCell (Mod.setCell (Mod.refl (One w.heap.size) v20) (p:=⟨w.heap.size,0,none⟩) (.inr (show One w.heap.size w.heap.size from rfl)) (.int .i64 0)) (p:=⟨w.heap.size,0,none⟩) (.inr (show One w.heap.size w.heap.size from rfl)) (.int .i64 0)
 have hW:=F1.hr
 have RR:=R9.mod mp (show ¬r=w.heap.size from Ne.symm npr)
 have hOO:=ownsRow_mod hO9 mp (fun b hb e=> by have:=(hO9.lt b hb).1;have:b=w.heap.size:=e;omega)
 rw [List.take_length] at hOO
 have hOO' :=own_weak hOO (B:=w.heap.size) (by omega)
 have mm:Mod (One r) w _:=Mod.trans (Mod.trans mW hm9 (fun _ _ h=> h)) mp (fun b hb e=> absurd hb (by have:b=w.heap.size:=e;omega))
 simp only [Leaves,settle]
 revert y0 RR hOO' mm
 generalize (v20.setCell { block:=w.heap.size,off:=0 } (Value.int IntKind.i64 0)).setCell { block:=w.heap.size,off:=0 } (Value.int IntKind.i64 0)=W
 intro y0 RR hOO' mm
 clear HP
 refine ⟨.int .i64 0, ?_,rfl,mm,nv,n,_,sv,RR,hOO'⟩
 rw [results_cell rfl]
 go_simp
end Go.Q
set_option linter.unnecessarySimpa false
namespace Go.Q
open Go.RowKit Go.Proofs
set_option maxRecDepth 100000 in
set_option maxHeartbeats 2000000 in
theorem open_ok (H:Nat→Nat) (hH:∀ i,i < 16→H i < 4294967296) (g N M cap:Nat) (ns:List Nat) (C G tn:Nat) (hM:M=N+4) (hN:N=([113,115,1]++vbs ns).length) (hN2:N≤1000000) (hN3:11≤N) (hcap:M≤cap) (hns:∀ x∈ns,x < 18446744073709551616) (hnl:ns.length≤60000)
  (e1:ns[1]? =some C) (e3:ns[3]? =some G) (et:ns[4+2 * (G - 1)+C+C]? =some tn) (hC1:1≤C) (hC2:C≤64) (hG1:1≤G) (hG2:G≤256) (htn:tn≤1) (hlen:ns.length=4+2 * (G - 1)+C+C+1+8 * tn+(C+3 * C * (G - 1)))
  (w:World) (RH:Row w 1 16 (fun i=> .int .u32 (H i:Nat))) (R:Row w g M (fl (bl (([113,115,1]++vbs ns)++tail4 (crcV H ([113,115,1]++vbs ns)))))):
  Calls Tryz.prog 96 #[slc g M cap] w fun e w' => ∃ r,e= .returned (.tuple #[ptr r, .int .i64 0])∧Mod No w w' ∧∃ s0 nv n oo sv,Row w' r 4 (fl [s0,oo,nv,sv])∧w'.ownsRow w.heap.size 37 1 nv n (ul ns):=by
 obtain ⟨bs,hbs⟩:∃ bs,bs= [113,115,1]++vbs ns:=⟨_,rfl⟩
 have hbyte:∀ x∈bs,x < 256:=by
  intro x hx
  rw [hbs] at hx
  simp only [List.mem_append,List.mem_cons,List.not_mem_nil,or_false] at hx
  rcases hx with (rfl|rfl|rfl)|h
  ·omega
  ·omega
  ·omega
  ·exact vbs_byte _ x h
 rw [←hbs] at R hN
 have hc3:∀ j x,j < 3→ [113,115,1][j]? =some x→w.cell? ⟨g,j,none⟩=some (.int .u8 (x:Nat)):=by
  intro j x hj hx
  rw [R.cell (by omega),hbs]
  unfold fl bl
  rw [List.getD_eq_getElem?_getD,List.getElem?_map,List.getElem?_append_left (by simp;omega),List.getElem?_append_left (by simpa using hj),hx]
  rfl
 have t0:w.cell? ⟨g,0,none⟩=some (.int .u8 113):=hc3 0 113 (by omega) rfl
 have t1:w.cell? ⟨g,1,none⟩=some (.int .u8 115):=hc3 1 115 (by omega) rfl
 have t2:w.cell? ⟨g,2,none⟩=some (.int .u8 1):=hc3 2 1 (by omega) rfl
 have RB:Row w g N (fl (bl bs)):=by
  refine (R.take (M:=N) (by omega)).congr (fun i hi=> ?_)
  unfold fl
  rw [bl_append,List.getD_eq_getElem?_getD,List.getElem?_append_left (by rw [bl_len];omega),List.getD_eq_getElem?_getD]
 have i1:(15:Int)≤M:=by omega
 have i2:(M:Int)≤16777216:=by omega
 have i3:(0:Int) < M:=by omega
 have i4:(1:Int) < M:=by omega
 have i5:(2:Int) < M:=by omega
 have i6:(M:Int) - 4=N:=by omega
 have i7:(N:Int)≤M:=by omega
 have i8:(N:Int)≤cap:=by omega
 have i9:IntKind.i64.wrap (N:Int)=N:=by rw [IntKind.wrap_i64];omega
 have HH:=Lib.hid (And.intro hM (And.intro hN (And.intro hN2 (And.intro hcap (And.intro hns (And.intro hnl (And.intro hbs (And.intro hbyte hlen))))))))
 have lg:=R.lt
 clear hM hN hN2 hN3 hcap hns hnl hbs hbyte hlen hc3
 go_enter Tryz.func96,Tryz.ntmps96
 go_wp2_with fail
 refine (sealed_ok H hH g N M cap HH.out.1 bs HH.out.2.2.2.2.2.2.2.1 HH.out.2.1.symm HH.out.2.2.1 (by have:=HH.out;omega) _ RH R).mono ?_;rintro e w1 ⟨rfl,dm,rfl⟩
 have R1:=RB.drewN dm
 go_upto_region 12 with fail
 refine wp_world (fun W=> Mod No w W∧Row W w.heap.size 4 (fl [slc g N cap, .int .i64 0, .slice none 0 0, .slice none 0 0])∧Row W g N (fl (bl bs))) ⟨((Mod.refl No w).drewN dm).alloc _,row_newL' _ _ [_,_,_,_] _ (by simp),R1.alloc _⟩ ?_
 intro W ⟨mW,RW,BW⟩
 have lRW:=RW.lt
 have hbs:=HH.out.2.2.2.2.2.2.1
 have FX:RdFix W w.heap.size g N cap ns:=⟨lRW,by omega,by rw [←hbs];exact HH.out.2.1,HH.out.2.2.1,by have:=HH.out;omega,HH.out.2.2.2.2.1,HH.out.2.2.2.2.2.1,by rw [←hbs];exact BW⟩
 have HF:=Lib.hid FX
 clear hbs FX
 go_wp2_with fail
 refine (walk_ok C G tn W HF.out RW e1 e3 et hC1 hC2 hG1 hG2 htn HH.out.2.2.2.2.2.2.2.2).mono ?_;rintro e w2 ⟨rfl,m2,nv,n,oo,sv,R2,hO2⟩
 go_wp2
 go_ret2
 refine ⟨w.heap.size,rfl, ?_,slc g N cap,nv,n,oo,sv,R2,own_weak hO2 mW.size⟩
 exact Mod.trans mW m2 (fun b hb e=> by have:b=w.heap.size:=e;omega)
def SrcAt (w:World) (s base:Nat) (L:List Nat):Prop:=∃ p c,Row w s 2 (fl [.slice p L.length c, .bool true])∧L.length≤c∧L.length≤60000∧s < base∧base≤w.heap.size∧(L≠ []→∃ b o,p=some ⟨b,o,none⟩∧b≠s∧b < base∧∀ i,i < L.length→w.cell? ⟨b,o+i,none⟩=some (.int .u64 (L.getD i 0:Nat)))
theorem SrcAt.mod {w w' :World} {s base:Nat} {L:List Nat} {S:Nat→Prop} (h:SrcAt w s base L) (hm:Mod S w w') (hS:∀ b,b < base→¬S b):SrcAt w' s base L:=by
 obtain ⟨p,c,R,hc,h6,hs,hb,hx⟩:=h
 refine ⟨p,c,R.mod hm (hS s hs),hc,h6,hs,Nat.le_trans hb hm.size,fun hL=> ?_⟩
 obtain ⟨b,o,e,hbs,hl,hcell⟩:=hx hL
 exact ⟨b,o,e,hbs,hl,fun i hi=> by rw [World.cell?_of_block (hm.keep b (by omega) (hS b hl))];exact hcell i hi⟩
theorem SrcAt.lt {w:World} {s base:Nat} {L:List Nat} (h:SrcAt w s base L):s < w.heap.size:=by obtain ⟨p,c,R,_⟩:=h;exact R.lt
set_option maxRecDepth 100000 in
theorem next_ok (s base x most:Nat) (L:List Nat) (hx:x≤most) (w:World) (h:SrcAt w s base (x::L)):
  Calls Tryz.prog 183 #[ptr s, .int .u64 most] w fun e w' => e= .returned (.int .u64 x)∧SrcAt w' s base L∧Mod (One s) w w' :=by
 obtain ⟨p,c,R,hc,h6,hsb,hbw,hX⟩:=h
 have hL:L.length≤60000:=by simp only [List.length_cons] at h6;omega
 clear h6
 obtain ⟨b,o,rfl,hb,hl,hcell⟩:=hX (by simp)
 have hn:(x::L).length=L.length+1:=rfl
 obtain ⟨n,hnn⟩:∃ n,n=(x::L).length:=⟨_,rfl⟩
 rw [←hnn] at R hc
 have h0:w.cell? ⟨b,o,none⟩=some (.int .u64 x):=by have:=hcell 0 (by simp);simpa using this
 have c0:=R.cL 0 _ (by omega) rfl
 have c1:=R.cL 1 _ (by omega) rfl
 have f0:=R.free 0
 have f1:=R.free 1
 have lR:=R.lt
 have i1:(0:Int) < n:=by omega
 have i2:(1:Int)≤n:=by omega
 have i3:(x:Int)≤most:=by omega
 have HX:∀ (p' :Option Addr),(L≠ []→p' =some ⟨b,o+1,none⟩)→SrcAt ((w.setCell { block:=s,off:=0 } (Value.slice p' (n - 1) (c - 1))).setCell { block:=s,off:=1 } (Value.bool true)) s base L:=by
  intro p' hp
  refine ⟨p',c - 1, ?_,by omega,hL,hsb,by simpa [World.size_setCell] using hbw,fun hne=> ⟨b,o+1,hp hne,hb,hl,fun i hi=> ?_⟩⟩
  ·rw [show L.length=n - 1 from by omega]
   exact (((R.set (i:=0) (by omega) _).set (i:=1) (by omega) _).congr (fun i hi=> by rcases (by omega:i=0∨i=1) with rfl|rfl <;> rfl))
  ·have:=hcell (i+1) (by omega)
   rw [World.cell?_setCell_far _ _ _ _ (Ne.symm hb),World.cell?_setCell_far _ _ _ _ (Ne.symm hb),show o+1+i=o+(i+1) from by omega,this]
   simp
 have HM:∀ v,Mod (One s) w ((w.setCell { block:=s,off:=0 } v).setCell { block:=s,off:=1 } (Value.bool true)):=fun v=> ((Mod.refl (One s) w).setCell (p:=⟨s,0,none⟩) (.inr rfl) _).setCell (p:=⟨s,1,none⟩) (.inr rfl) _
 have HH:=Lib.hid (And.intro hL (And.intro hc (And.intro hcell (And.intro hnn (And.intro hn (And.intro HX HM))))))
 clear hL hc hcell hnn hn hx hX HX HM
 go_enter Tryz.func183,Tryz.ntmps183
 by_cases i4:c=1
 ·have i5:=Lib.hid i4
  subst i4
  go_wp2_with fail
  go_ret
  exact ⟨rfl,HH.out.2.2.2.2.2.1 _ (fun hne=> absurd (List.length_pos_iff.2 hne) (by have:=HH.out;omega)),HH.out.2.2.2.2.2.2 _⟩
 go_wp2_with fail
 go_ret
 exact ⟨rfl,HH.out.2.2.2.2.2.1 _ (fun _=> rfl),HH.out.2.2.2.2.2.2 _⟩
set_option maxRecDepth 100000 in
theorem whole_ok (s base x:Nat) (L:List Nat) (hx:x≤4611686018427387904) (w:World) (h:SrcAt w s base (x::L)):
  Calls Tryz.prog 182 #[ptr s] w fun e w' => e= .returned (.int .i64 x)∧SrcAt w' s base L∧Mod (One s) w w' :=by
 have i9:IntKind.i64.wrap (x:Int)=x:=by rw [IntKind.wrap_i64];omega
 have HH:=Lib.hid hx
 clear hx
 go_enter Tryz.func182,Tryz.ntmps182
 go_wp2_with fail
 refine (next_ok s base x 4611686018427387904 L HH.out w h).mono ?_;rintro e w1 ⟨rfl,S1,M1⟩
 go_wp2
 go_ret
 exact ⟨rfl,S1,M1⟩
theorem next_i (s base:Nat) (x:Int) (most:Nat) (L:List Nat) (h0:0≤x) (hx:x≤most) (w:World) (h:SrcAt w s base (x.toNat::L)):
  Calls Tryz.prog 183 #[ptr s, .int .u64 most] w fun e w' => e= .returned (.int .u64 x)∧SrcAt w' s base L∧Mod (One s) w w' :=by
 refine (next_ok s base x.toNat most L (by omega) w h).mono ?_
 rintro e w1 ⟨rfl,h1,h2⟩
 exact ⟨by rw [Int.toNat_of_nonneg h0],h1,h2⟩
theorem whole_i (s base:Nat) (x:Int) (L:List Nat) (h0:0≤x) (hx:x≤4611686018427387904) (w:World) (h:SrcAt w s base (x.toNat::L)):
  Calls Tryz.prog 182 #[ptr s] w fun e w' => e= .returned (.int .i64 x)∧SrcAt w' s base L∧Mod (One s) w w' :=by
 refine (whole_ok s base x.toNat L (by omega) w h).mono ?_
 rintro e w1 ⟨rfl,h1,h2⟩
 exact ⟨by rw [Int.toNat_of_nonneg h0],h1,h2⟩
end Go.Q
set_option linter.unnecessarySimpa false
namespace Go.Q
open Go.RowKit Go.Proofs
deriving instance DecidableEq for SOwn
def pty:SOwn→TypeId
 | .no=> 103
 | .gb=> 71
 | .cl=> 3
 | .cu=> 3
 | .tk=> 119
 | .so=> 103
 | .si _=> 122
def psz:SOwn→Nat
 | .gb=> 2
 | .tk=> 8
 | .si _=> 3
 |_=> 1
def gpl (A:ASt) (k:Nat):List Value:=(List.range k).flatMap fun g=> [.int .i64 (A.par g), .int .i64 (A.wt g)]
theorem gpl_succ (A:ASt) (k:Nat):gpl A (k+1)=gpl A k++ [.int .i64 (A.par k), .int .i64 (A.wt k)]:=by simp [gpl,List.range_succ]
theorem gpl_len (A:ASt) (k:Nat):(gpl A k).length=k * 2:=by
 induction k with
 |zero=> rfl
 |succ k ih=> rw [gpl_succ,List.length_append,ih];simp;omega
theorem gpl_get (A:ASt) (k i:Nat) (hi:i < k * 2):fl (gpl A k) i=grp A.par A.wt i:=by
 induction k with
 |zero=> omega
 |succ k ih=>
  unfold fl at *
  rw [gpl_succ,List.getD_eq_getElem?_getD]
  by_cases h:i < k * 2
  ·rw [List.getElem?_append_left (by rw [gpl_len];exact h),←List.getD_eq_getElem?_getD,ih h]
  ·rw [List.getElem?_append_right (by rw [gpl_len];omega),gpl_len]
   have:i=k * 2∨i=k * 2+1:=by omega
   rcases this with rfl|rfl
   ·rw [grp_even];simp
   ·rw [grp_odd];simp
def ipl (f:Nat→Int) (k:Nat):List Value:=(List.range k).map fun c=> .int .i64 (f c)
theorem ipl_succ (f:Nat→Int) (k:Nat):ipl f (k+1)=ipl f k++ [.int .i64 (f k)]:=by simp [ipl,List.range_succ]
theorem ipl_get (f:Nat→Int) (k i:Nat) (hi:i < k):fl (ipl f k) i=ints f i:=by
 simp [fl,ipl,ints,hi]
def spsl (pv:SOwn→Value) (k:Nat):List Value:=(List.range k).map fun g=> pv (.si g)
theorem spsl_succ (pv:SOwn→Value) (k:Nat):spsl pv (k+1)=spsl pv k++ [pv (.si k)]:=by simp [spsl,List.range_succ]
def tpl (A:ASt) (k:Nat):List Value:=if k=0 then [] else match A.task with|none=> []|some t=> tkc t
def pls (A:ASt) (pv:SOwn→Value):SOwn→Nat→List Value
 | .no,_=> []
 | .gb,k=> gpl A k
 | .cl,k=> ipl A.clocks k
 | .cu,k=> ipl A.current k
 | .tk,k=> tpl A k
 | .so,k=> spsl pv k
 | .si g,k=> spl (A.spots g) k
theorem own_row1b {w:World} {base:Nat} {e:TypeId} {g cap n:Nat} {xs:List Value} (h:w.ownsRow base e 1 (slc g n cap) n xs):Row w g n (fl xs):=by
 have:=own_row1 h
 rwa [Nat.mul_one] at this
structure PI (w0 w:World) (s xs:Nat) (A:ASt) (cnt:SOwn→Nat) (pv:SOwn→Value) (ow:Nat→SOwn):Prop where
 own:∀ t,w.ownsRow w0.heap.size (pty t) (psz t) (pv t) (cnt t) (pls A pv t (cnt t))
 at_:∀ t b,(pv t).ownBlock=some b→ow b=t∧t≠ .no
 xno:ow xs= .no
 xge:w0.heap.size≤xs
 lt:∀ b,ow b≠ .no→w0.heap.size≤b∧b < w.heap.size
 mod:Mod (One s) w0 w
 slt:s < w0.heap.size
section
variable {S:Nat→Prop} {w0 w w' :World} {s xs:Nat} {A:ASt} {cnt:SOwn→Nat} {pv:SOwn→Value} {ow:Nat→SOwn}
theorem PI.move (h:PI w0 w s xs A cnt pv ow) (hm:Mod S w w') (hs:∀ b,S b→ow b= .no) (hS:∀ b,S b→b=s∨w0.heap.size≤b):PI w0 w' s xs A cnt pv ow:=by
 refine ⟨fun t=> ownsRow_mod (h.own t) hm (fun b hb hSb=> ?_),h.at_,h.xno,h.xge,fun b hb=> ⟨(h.lt b hb).1,Nat.lt_of_lt_of_le (h.lt b hb).2 hm.size⟩, ?_,h.slt⟩
 ·have:=h.at_ t b hb
  rw [hs b hSb] at this
  exact this.2 this.1.symm
 ·refine Mod.trans h.mod hm (fun b hb hSb=> ?_)
  rcases hS b hSb with h1|h1
  ·exact h1
  ·omega
theorem PI.no (h:PI w0 w s xs A cnt pv ow) (hm:Mod No w w'):PI w0 w' s xs A cnt pv ow:=h.move hm (fun _ hb=> hb.elim) (fun _ hb=> hb.elim)
theorem PI.src (h:PI w0 w s xs A cnt pv ow) (hm:Mod (One s) w w'):PI w0 w' s xs A cnt pv ow:=h.move hm (fun b hb=> Classical.byContradiction fun hn=> by have:=h.lt b hn;have:=h.slt;have:b=s:=hb;omega) (fun _ hb=> .inl hb)
theorem PI.start (hs:s < w0.heap.size) (hm:Mod (One s) w0 w) (hx:w0.heap.size≤xs) (cnt:SOwn→Nat) (hc:∀ t,cnt t=0):PI w0 w s xs A cnt (fun _=> .slice none 0 0) (fun _=> .no):=by
 refine ⟨fun t=> ?_,fun t b hb=> by simp [Value.ownBlock] at hb,rfl,hx,fun b hb=> absurd rfl hb,hm,hs⟩
 rw [hc]
 have:pls A (fun _=> Value.slice none 0 0) t 0= []:=by cases t <;> rfl
 rw [this]
 exact World.ownsRow_nil _ _ _ _
theorem PI.upd (I:PI w0 w s xs A cnt pv ow) (t:SOwn) (ht:t≠ .no) (hso:∀ g,g < cnt .so→t≠ .si g) {gs cap:Nat} (M:Mod (fun b=> b=xs∨(pv t).ownBlock=some b) w w')
  (O:w'.ownsRow w0.heap.size (pty t) (psz t) (slc gs (cnt t+1) cap) (cnt t+1) (pls A pv t (cnt t+1))) (at_:(pv t).ownBlock=some gs∨w.heap.size≤gs) (hx:xs < w.heap.size):
  ∃ ow',PI w0 w' s xs A (fun u=> if u=t then cnt u+1 else cnt u) (fun u=> if u=t then slc gs (cnt t+1) cap else pv u) ow' ∧∀ b,b < w.heap.size→ow b= .no→ow' b= .no:=by
 have hz:=M.size
 have ho:∀ b,b < w.heap.size→ow b≠ .no→(if b=gs then t else ow b)=ow b:=by
  intro b hb hne
  split
  ·rename_i h;subst h
   rcases at_ with h|h
   ·exact ((I.at_ t _ h).1).symm
   ·omega
  rfl
 have key:∀ k,k≤cnt .so→spsl (fun u=> if u=t then slc gs (cnt t+1) cap else pv u) k=spsl pv k:=by
  intro k hk
  refine List.map_congr_left (fun g hg=> ?_)
  have:=List.mem_range.1 hg
  show (if SOwn.si g=t then _ else pv (.si g))=pv (.si g)
  rw [if_neg (fun e=> hso g (by omega) e.symm)]
 refine ⟨fun b=> if b=gs then t else ow b,⟨fun u=> ?_,fun u b hb=> ?_, ?_,I.xge,fun b hb=> ?_, ?_,I.slt⟩,fun b hb h0=> ?_⟩
 ·by_cases e:u=t
  ·subst e
   simp only [if_true]
   cases u with
   |so=>
    have e2:pls A (fun u=> if u=SOwn.so then slc gs (cnt .so+1) cap else pv u) .so (cnt .so+1)=pls A pv .so (cnt .so+1):=by
     refine List.map_congr_left (fun g hg=> ?_)
     show (if SOwn.si g=SOwn.so then _ else pv (.si g))=pv (.si g)
     rw [if_neg (by simp)]
    rw [e2];exact O
   |_=> exact O
  ·simp only [if_neg e]
   have e2:pls A (fun u=> if u=t then slc gs (cnt t+1) cap else pv u) u (cnt u)=pls A pv u (cnt u):=by
    cases u with
    |so=> exact key _ (Nat.le_refl _)
    |_=> rfl
   rw [e2]
   refine ownsRow_mod (I.own u) M (fun b hb h=> ?_)
   have hu:=I.at_ u b hb
   rcases h with rfl|h
   ·exact hu.2 (by rw [←hu.1,I.xno])
   ·exact e (by rw [←hu.1,(I.at_ t b h).1])
 ·by_cases e:u=t
  ·subst e
   simp only [if_true] at hb
   obtain rfl:gs=b:=Option.some.inj hb
   exact ⟨by simp,ht⟩
  ·simp only [if_neg e] at hb
   have hu:=I.at_ u b hb
   have hb1:=(I.lt b (by rw [hu.1];exact hu.2)).2
   exact ⟨by rw [ho b hb1 (by rw [hu.1];exact hu.2),hu.1],hu.2⟩
 ·show (if xs=gs then t else ow xs)= .no
  split
  ·rename_i e
   rcases at_ with h|h
   ·have:=I.at_ t _ h
    rw [←e,I.xno] at this
    exact this.1.symm
   ·omega
  ·exact I.xno
 ·try dsimp only at hb
  split at hb
  ·rename_i h;subst h;exact O.lt _ rfl
  ·have:=I.lt b hb;omega
 ·refine Mod.trans I.mod M ?_
  rintro b hb (rfl|h)
  ·have:=I.xge;omega
  ·have hu:=I.at_ t b h
   have:=(I.lt b (by rw [hu.1];exact hu.2)).1
   omega
 ·show (if b=gs then t else ow b)= .no
  split
  ·rename_i e
   rcases at_ with h|h
   ·have:=I.at_ t _ h
    rw [←e,h0] at this
    exact this.1.symm
   ·omega
  ·exact h0
theorem PI.at_of (I:PI w0 w s xs A cnt pv ow) {cnt' :SOwn→Nat} (h:∀ u,cnt' u=cnt u):PI w0 w s xs A cnt' pv ow:=by
 obtain rfl:cnt' =cnt:=funext h
 exact I
theorem PI.done (I:PI w0 w s xs A cnt pv ow) (hC:0 < A.C) (hG:0 < A.G) (hg:cnt .gb=A.G) (hc:cnt .cl=A.C) (hu:cnt .cu=A.C) (ht:cnt .tk=if A.task.isSome then 1 else 0) (hs:cnt .so=A.G) (hi:∀ g,g < A.G→cnt (.si g)=A.C):
  ∃ B',strow B' A= [.int .i64 A.C, .int .u64 A.cr,pv .gb,pv .cl,pv .cu,pv .tk,pv .so]∧StAt w ow B' A∧(∀ b,ow b≠ .no→w0.heap.size≤b)∧A.G≤B'.gcap:=by
 have og:=I.own .gb
 have oc:=I.own .cl
 have ou:=I.own .cu
 have ot:=I.own .tk
 have os:=I.own .so
 have oi:∀ g,g < A.G→w.ownsRow w0.heap.size (pty (.si g)) 3 (pv (.si g)) A.C (spl (A.spots g) A.C):=fun g hg=> by have:=I.own (.si g);rw [hi g hg] at this;exact this
 rw [hg] at og
 rw [hc] at oc
 rw [hu] at ou
 rw [hs] at os
 obtain ⟨gb,gcap,eg,_,_⟩:=own_pos og hG
 obtain ⟨cl,ccap,ec,_,_⟩:=own_pos oc hC
 obtain ⟨cu,ucap,eu,_,_⟩:=own_pos ou hC
 obtain ⟨so,scap,es,_,_⟩:=own_pos os hG
 have oi' :∀ g,∃ b c,g < A.G→pv (.si g)=slc b A.C c:=fun g=> by
  by_cases h:g < A.G
  ·obtain ⟨b,c,e,_⟩:=own_pos (oi g h) hC
   exact ⟨b,c,fun _=> e⟩
  ·exact ⟨0,0,fun h' => absurd h' h⟩
 obtain ⟨si,hsi⟩:=Classical.axiomOfChoice oi'
 obtain ⟨sc,hsc⟩:=Classical.axiomOfChoice hsi
 rw [eg] at og
 rw [ec] at oc
 rw [eu] at ou
 rw [es] at os
 have own_:∀ {t:SOwn} {b n c:Nat},pv t=slc b n c→ow b=t:=fun {t b n c} e=> (I.at_ t b (by rw [e];rfl)).1
 refine ⟨⟨gb,gcap,cl,ccap,cu,ucap,pv .tk,so,scap,si,sc⟩, ?_,⟨fun t=> ?_,fun b hb=> (I.lt b hb).2⟩,fun b hb=> (I.lt b hb).1,own_cap og⟩
 ·simp only [strow,eg,ec,eu,es]
 cases t with
 |no=> trivial
 |gb=> exact ⟨own_ eg,(ownsRow_row og).congr (fun i hi=> gpl_get A A.G i hi)⟩
 |cl=> exact ⟨own_ ec,(own_row1b oc).congr (fun i hi=> ipl_get A.clocks A.C i hi)⟩
 |cu=> exact ⟨own_ eu,(own_row1b ou).congr (fun i hi=> ipl_get A.current A.C i hi)⟩
 |tk=>
  simp only [SPart]
  cases hA:A.task with
  |none=>
   rw [hA] at ht
   simp only [Option.isSome_none,Bool.false_eq_true,if_false] at ht
   rw [ht] at ot
   obtain ⟨o,c,e⟩:=own_slice ot
   exact ⟨o,c,e⟩
  |some t=>
   rw [hA] at ht
   simp only [Option.isSome_some,if_true] at ht
   rw [ht] at ot
   obtain ⟨b,c,e,_⟩:=own_pos ot (by omega)
   rw [e] at ot
   refine ⟨b,c,e,own_ e, ?_⟩
   have:=ownsRow_row ot
   simp only [pls,tpl,hA,psz] at this
   exact this
 |so=>
  refine ⟨own_ es,(own_row1b os).congr (fun i hi=> ?_)⟩
  simp only [pls,spsl,fl]
  rw [List.getD_eq_getElem?_getD,List.getElem?_map,List.getElem?_range hi]
  exact hsc i hi
 |si g=>
  intro hg
  have h1:=oi g hg
  rw [hsc g hg] at h1
  exact ⟨own_ (hsc g hg),(ownsRow_row h1).congr (fun i hi=> spl_get _ _ i hi)⟩
end
end Go.Q
set_option linter.unnecessarySimpa false
namespace Go.Q
open Go.RowKit Go.Proofs
theorem Tryz.infoGrp:(Tryz.prog.info? 71).map (fun i=> (i.zero,i.size,i.bytes))=some (some (.agg #[.int .i64 0, .int .i64 0]),2,16):=by kernel_rfl
abbrev gpW (deep:Bool) (k:Nat):List Value:=gpl (AZ 64 256 0 (parW deep) wtW) k
theorem tmodW (k:Nat):(k:Int).tmod 4=((k % 4:Nat):Int):=by
 rw [Int.tmod_eq_emod_of_nonneg (by omega)];rfl
set_option maxRecDepth 100000 in
set_option maxHeartbeats 1000000 in
theorem made_ok (b:Nat) (deep:Bool) (w:World) (hb:Row w b 1 (fl [.bool deep])):
  Calls Tryz.prog 16 #[ptr b] w fun e w' => ∃ gb cap,e= .returned (.agg #[.int .i64 64, .int .u64 0,slc gb 256 cap])∧Mod No w w' ∧w.heap.size≤gb∧Row w' gb (256 * 2) (grp (parW deep) wtW):=by
 have lb:=hb.lt
 go_enter Tryz.func16,Tryz.ntmps16
 go_upto_region 2 with fail
 refine wp_world (fun V=> Mod No w V∧Row V w.heap.size 3 (fl [.int .i64 0, .int .u64 0, .slice none 0 0])∧V.ownsRow (w.heap.size+1) 71 2 (slc (w.heap.size+1) 1 1) 1 (gpW deep 1)∧Row V (w.heap.size+2) 3 (fl [.int .i64 64, .int .u64 0,slc (w.heap.size+1) 1 1])) ?_ ?_
 ·refine ⟨(((Mod.refl No w).alloc _).alloc _).alloc _,((row_newL w [_,_,_] _).alloc _).alloc _, ?_,row_newL' _ _ [_,_,_] _ (by simp)⟩
  refine World.ownsRow.alloc ?_ _
  have h:=World.ownsRow_lit (base:=w.heap.size+1) (e:=71) (size:=2) (w.alloc (.cells #[.int .i64 0, .int .u64 0, .slice none 0 0] 40)) #[.int .i64 0, .int .i64 1] 1 (by simp) (by decide) rfl
  simp only [World.size_alloc] at h
  have e:gpW deep 1= [.int .i64 0, .int .i64 1]:=by
   simp [gpW,gpl,parW,wtW,below,List.range_succ]
  rw [e]
  exact h
 intro V ⟨mV,ZV,OV,CV⟩
 have zV:=CV.lt
 go_wp2
 go_loopw [3] (fun s3 wr=> ∃ (k o rc:Nat),s3= .int .i64 k∧1≤k∧k≤256∧Row wr (w.heap.size+2) 3 (fl [.int .i64 64, .int .u64 0,slc o k rc])∧wr.ownsRow (w.heap.size+1) 71 2 (slc o k rc) k (gpW deep k)∧o≠w.heap.size+2∧Row wr w.heap.size 3 (fl [.int .i64 0, .int .u64 0, .slice none 0 0])∧Mod No w wr) (fun s3 _=> 256 - (RowKit.intOf s3).toNat)
 case atStart=> exact ⟨1,_,_,rfl,by omega,by omega,CV,OV,by omega,ZV,mV⟩
 case round=>
  obtain ⟨wk,rfl⟩:∃ W,W=wr:=⟨wr,rfl⟩
  obtain ⟨k,o,rc,rfl,k1,k2,X,hO,hox,Z,mk⟩:=hrel
  have lX:=X.lt
  have x2:=X.cL 2 _ (by omega) rfl
  have B0:=hb.mod mk (fun h=> h)
  have lB0:=B0.lt
  have b0:=B0.cL 0 _ (by omega) rfl
  have zk:=mk.size
  by_cases hkG:k < 256
  ·have j0:(0:Int)≤k:=by omega
   have j1:(k:Int) < 256:=by omega
   have hW:wtW k=1+(k:Int):=rfl
   have w1:IntKind.i64.wrap (1+(k:Int))=1+(k:Int):=by rw [IntKind.wrap_i64];omega
   have w2:IntKind.i64.wrap ((k:Int) - 1)=(k:Int) - 1:=by rw [IntKind.wrap_i64];omega
   have lo:=hO.lt
   have no:(slc o k rc).ownBlock≠some (w.heap.size+2):=fun e=> hox (Option.some.inj e)
   have noz:(slc o k rc).ownBlock≠some w.heap.size:=fun e=> by have:=(lo _ e).1;omega
   cases deep with
   |false=>
    have hp:parW false k=0:=by unfold parW below;simp
    go_wp2_with (at_builtin;go_must (refine wpList_app_c 71 _ 2 16 Tryz.infoGrp rfl _ _ 38 rfl Tryz.underlying38 rfl (by decide) (by decide) [.int .i64 0, .int .i64 (1+(k:Int))] rfl (by simp [Value.oneCell']) (w.heap.size+1) (slc o k rc) k (gpW false k) _ _ rfl rfl ?_ ?_ ?_ ?_ ?_);go_must (· simp;omega);go_must (· omega);go_must (· (repeat first|(with_reducible exact hO)|(with_reducible refine World.ownsRow.drew ?_)|(with_reducible refine World.ownsRow.alloc ?_ _)));go_must (· exact row_newL' _ _ [_,_] _ (by simp));go_must (intro gs cap wB hB);go_must (have nB:=Appd.row hB (X.alloc _) no);go_must (have lB:=nB.lt);go_must (have j3' :=nB.cL 2 _ (by omega) rfl);have f3' :=nB.free 2)
    have aq:=hB.at_
    simp only [World.size_alloc] at aq
    have ngx:gs≠w.heap.size+2:=by
     rintro rfl
     rcases aq with h|h
     ·exact no h
     ·omega
    have mC:Mod (fun b=> b=w.heap.size+2) wB (wB.setCell ⟨w.heap.size+2,2,none⟩ (slc gs (k+1) cap)):=(Mod.refl (fun b=> b=w.heap.size+2) wB).setCell (p:=⟨w.heap.size+2,2,none⟩) (.inr rfl) _
    have nBZ:=Appd.row hB (Z.alloc _) noz
    refine ⟨⟨k+1,gs,cap,by go_num,by omega,by omega,(nB.set (i:=2) (by omega) _).congr (by apply le3 <;> rfl), ?_,ngx,nBZ.mod mC (by show ¬w.heap.size=w.heap.size+2;omega), ?_⟩,by simp only [RowKit.intOf];omega⟩
    ·have e:gpW false (k+1)=gpW false k++ [.int .i64 0, .int .i64 (1+(k:Int))]:=by
      unfold gpW
      rw [gpl_succ]
      show _++ [Value.int .i64 (parW false k),Value.int .i64 (wtW k)]=_
      rw [hp,hW]
     rw [e]
     exact ownsRow_mod hB.own mC (by rintro b hb rfl;exact ngx (Option.some.inj hb))
    ·refine Mod.trans mk (Mod.trans (Mod.trans ((Mod.refl No wk).alloc _|>.no (fun b=> b=w.heap.size+2∨(slc o k rc).ownBlock=some b)) (hB.mod.mono (T:=fun b=> b=w.heap.size+2∨(slc o k rc).ownBlock=some b) (fun b _ h=> .inr h)) (fun _ _ h=> h)) (mC.mono (fun b _ h=> .inl h)) (fun _ _ h=> h)) ?_
     rintro b hb (h|h)
     ·omega
     ·have:=(lo _ h).1;omega
   |true=>
    obtain ⟨r,hr⟩:∃ r:Int,r=((k % 4:Nat):Int):=⟨_,rfl⟩
    have tm:(k:Int).tmod 4=r:=by rw [tmodW,hr]
    have r0:0≤r:=by omega
    have r1:r < 4:=by omega
    by_cases h4:k % 4=1
    ·have hp:parW true k=0:=by
      unfold parW below
      rw [show decide (k % 4≠1)=false from by rw [decide_eq_false_iff_not];omega]
      simp
     have d1:(r !=1)=false:=by rw [hr,h4];rfl
     clear hr
     go_wp2_with (at_builtin;go_must (refine wpList_app_c 71 _ 2 16 Tryz.infoGrp rfl _ _ 38 rfl Tryz.underlying38 rfl (by decide) (by decide) [.int .i64 0, .int .i64 (1+(k:Int))] rfl (by simp [Value.oneCell']) (w.heap.size+1) (slc o k rc) k (gpW true k) _ _ rfl rfl ?_ ?_ ?_ ?_ ?_);go_must (· simp;omega);go_must (· omega);go_must (· (repeat first|(with_reducible exact hO)|(with_reducible refine World.ownsRow.drew ?_)|(with_reducible refine World.ownsRow.alloc ?_ _)));go_must (· exact row_newL' _ _ [_,_] _ (by simp));go_must (intro gs cap wB hB);go_must (have nB:=Appd.row hB (X.alloc _) no);go_must (have lB:=nB.lt);go_must (have j3' :=nB.cL 2 _ (by omega) rfl);have f3' :=nB.free 2)
     have aq:=hB.at_
     simp only [World.size_alloc] at aq
     have ngx:gs≠w.heap.size+2:=by
      rintro rfl
      rcases aq with h|h
      ·exact no h
      ·omega
     have mC:Mod (fun b=> b=w.heap.size+2) wB (wB.setCell ⟨w.heap.size+2,2,none⟩ (slc gs (k+1) cap)):=(Mod.refl (fun b=> b=w.heap.size+2) wB).setCell (p:=⟨w.heap.size+2,2,none⟩) (.inr rfl) _
     have nBZ:=Appd.row hB (Z.alloc _) noz
     refine ⟨⟨k+1,gs,cap,by go_num,by omega,by omega,(nB.set (i:=2) (by omega) _).congr (by apply le3 <;> rfl), ?_,ngx,nBZ.mod mC (by show ¬w.heap.size=w.heap.size+2;omega), ?_⟩,by simp only [RowKit.intOf];omega⟩
     ·have e:gpW true (k+1)=gpW true k++ [.int .i64 0, .int .i64 (1+(k:Int))]:=by
       unfold gpW
       rw [gpl_succ]
       show _++ [Value.int .i64 (parW true k),Value.int .i64 (wtW k)]=_
       rw [hp,hW]
      rw [e]
      exact ownsRow_mod hB.own mC (by rintro b hb rfl;exact ngx (Option.some.inj hb))
     ·refine Mod.trans mk (Mod.trans (Mod.trans ((Mod.refl No wk).alloc _|>.no (fun b=> b=w.heap.size+2∨(slc o k rc).ownBlock=some b)) (hB.mod.mono (T:=fun b=> b=w.heap.size+2∨(slc o k rc).ownBlock=some b) (fun b _ h=> .inr h)) (fun _ _ h=> h)) (mC.mono (fun b _ h=> .inl h)) (fun _ _ h=> h)) ?_
      rintro b hb (h|h)
      ·omega
      ·have:=(lo _ h).1;omega
    ·have hp:parW true k=(k:Int) - 1:=by
      unfold parW below
      rw [show decide (k % 4≠1)=true from by rw [decide_eq_true_iff];omega,show decide (0 < k)=true from by rw [decide_eq_true_iff];omega]
      simp
     have d1:(r !=1)=true:=by simp;omega
     clear hr
     go_wp2_with (at_builtin;go_must (refine wpList_app_c 71 _ 2 16 Tryz.infoGrp rfl _ _ 38 rfl Tryz.underlying38 rfl (by decide) (by decide) [.int .i64 ((k:Int) - 1), .int .i64 (1+(k:Int))] rfl (by simp [Value.oneCell']) (w.heap.size+1) (slc o k rc) k (gpW true k) _ _ rfl rfl ?_ ?_ ?_ ?_ ?_);go_must (· simp;omega);go_must (· omega);go_must (· (repeat first|(with_reducible exact hO)|(with_reducible refine World.ownsRow.drew ?_)|(with_reducible refine World.ownsRow.alloc ?_ _)));go_must (· exact row_newL' _ _ [_,_] _ (by simp));go_must (intro gs cap wB hB);go_must (have nB:=Appd.row hB (X.alloc _) no);go_must (have lB:=nB.lt);go_must (have j3' :=nB.cL 2 _ (by omega) rfl);have f3' :=nB.free 2)
     have aq:=hB.at_
     simp only [World.size_alloc] at aq
     have ngx:gs≠w.heap.size+2:=by
      rintro rfl
      rcases aq with h|h
      ·exact no h
      ·omega
     have mC:Mod (fun b=> b=w.heap.size+2) wB (wB.setCell ⟨w.heap.size+2,2,none⟩ (slc gs (k+1) cap)):=(Mod.refl (fun b=> b=w.heap.size+2) wB).setCell (p:=⟨w.heap.size+2,2,none⟩) (.inr rfl) _
     have nBZ:=Appd.row hB (Z.alloc _) noz
     refine ⟨⟨k+1,gs,cap,by go_num,by omega,by omega,(nB.set (i:=2) (by omega) _).congr (by apply le3 <;> rfl), ?_,ngx,nBZ.mod mC (by show ¬w.heap.size=w.heap.size+2;omega), ?_⟩,by simp only [RowKit.intOf];omega⟩
     ·have e:gpW true (k+1)=gpW true k++ [.int .i64 ((k:Int) - 1), .int .i64 (1+(k:Int))]:=by
       unfold gpW
       rw [gpl_succ]
       show _++ [Value.int .i64 (parW true k),Value.int .i64 (wtW k)]=_
       rw [hp,hW]
      rw [e]
      exact ownsRow_mod hB.own mC (by rintro b hb rfl;exact ngx (Option.some.inj hb))
     ·refine Mod.trans mk (Mod.trans (Mod.trans ((Mod.refl No wk).alloc _|>.no (fun b=> b=w.heap.size+2∨(slc o k rc).ownBlock=some b)) (hB.mod.mono (T:=fun b=> b=w.heap.size+2∨(slc o k rc).ownBlock=some b) (fun b _ h=> .inr h)) (fun _ _ h=> h)) (mC.mono (fun b _ h=> .inl h)) (fun _ _ h=> h)) ?_
      rintro b hb (h|h)
      ·omega
      ·have:=(lo _ h).1;omega
  ·obtain rfl:k=256:=by omega
   have hx:=Lib.hid (And.intro hO (And.intro X (And.intro Z mk)))
   have z0:=Z.cL 0 _ (by omega) rfl
   have z1:=Z.cL 1 _ (by omega) rfl
   have z2:=Z.cL 2 _ (by omega) rfl
   have f0:=Z.free 0
   have f1:=Z.free 1
   have f2:=Z.free 2
   have lZ:=Z.lt
   have x0:=X.cL 0 _ (by omega) rfl
   have x1:=X.cL 1 _ (by omega) rfl
   clear hO X Z mk
   go_wp2
   obtain ⟨hO,X,Z,mk⟩:=hx.out
   have lo:=(hO.lt o rfl).1
   have mS:∀ v0 v1 v2,Mod (fun b=> b=w.heap.size) wk (((wk.setCell ⟨w.heap.size,0,none⟩ v0).setCell ⟨w.heap.size,1,none⟩ v1).setCell ⟨w.heap.size,2,none⟩ v2):=fun v0 v1 v2=>
    (((Mod.refl (fun b=> b=w.heap.size) wk).setCell (p:=⟨w.heap.size,0,none⟩) (.inr rfl) _).setCell (p:=⟨w.heap.size,1,none⟩) (.inr rfl) _).setCell (p:=⟨w.heap.size,2,none⟩) (.inr rfl) _
   refine bodyPost_ret (v:= .agg #[.int .i64 64, .int .u64 0,slc o 256 rc]) (by simp [results,Tryz.results16,go_sem, *]) rfl ⟨o,rc,rfl,Mod.trans mk (mS _ _ _) (fun b hb e=> by have e' :b=w.heap.size:=e;omega),by omega, ?_⟩
   exact ((ownsRow_row hO).congr (fun i hi=> gpl_get _ 256 i hi)).mod (mS _ _ _) (by show ¬o=w.heap.size;omega)
end Go.Q
