/- A part of the proof that TopGreat answers true: what some of the functions on its road compute. -/
import Derived.Deep.DeepCutAuto
import Derived.Test.YtckddephdbhagaaGreatDoorQ14
set_option linter.unusedVariables false
set_option linter.unusedSimpArgs false
namespace Go.Q
open Go.RowKit Go.Proofs
theorem SAt.setClks {w w' :World} {ow:Nat→Own} {x:Nat} {B:SB} {s:SSt} (h:SAt w ow x B s) (F:Nat→Int) (hm:Mod (fun b=> b=B.cb) w w') (hr:Row w' B.cb s.C (ints F)):SAt w' ow x B { s with clocks:=F }:=by
 have hc:=h.1 .cb
 refine h.set .cb (hm.mono (fun b _ e=> ⟨by rw [e];exact hc.1,by simp⟩)) ⟨hc.1,hr⟩ ?_
 intro t' ht' hp
 cases t' with
 |cb=> exact absurd rfl ht'
 |_=> exact hp
theorem SAt.setCurs {w w' :World} {ow:Nat→Own} {x:Nat} {B:SB} {s:SSt} (h:SAt w ow x B s) (F:Nat→Int) (hm:Mod (fun b=> b=B.ub) w w') (hr:Row w' B.ub s.C (ints F)):SAt w' ow x B { s with current:=F }:=by
 have hc:=h.1 .ub
 refine h.set .ub (hm.mono (fun b _ e=> ⟨by rw [e];exact hc.1,by simp⟩)) ⟨hc.1,hr⟩ ?_
 intro t' ht' hp
 cases t' with
 |ub=> exact absurd rfl ht'
 |_=> exact hp
theorem SAt.setLoad {w:World} {ow:Nat→Own} {x:Nat} {B:SB} {s:SSt} (h:SAt w ow x B s) {c:Nat} (hc:c < s.C) (v:Int):SAt (w.setCell ⟨B.lb,c,none⟩ (.int .i64 v)) ow x B { s with loads:=upd1 s.loads c v }:=by
 have hl:=h.1 .lb
 refine h.set .lb ((Mod.refl _ w).setCell (p:=⟨B.lb,c,none⟩) (.inr ⟨hl.1,by simp⟩) _) ⟨hl.1,(hl.2.set hc _).congr (fun i hi=> ?_)⟩ ?_
 ·simp only [ints,upd1]
  split <;> rfl
 ·intro t' ht' hp
  cases t' with
  |lb=> exact absurd rfl ht'
  |_=> exact hp
theorem Tryz.infoSMem:(Tryz.prog.info? 303).map (fun i=> (i.zero,i.size,i.bytes))=some (some (.agg #[.int .i64 0, .int .u64 0, .int .u32 0, .int .u32 0]),4,24):=by kernel_rfl
theorem putMod (w:World) (b:Nat) (o:Obj):Mod (fun x=> x=b) w { w with heap:=w.heap.setIfInBounds b o }:=
 ⟨rfl,rfl,rfl,by simp,fun k hk hne=> by simp [Array.getElem?_setIfInBounds,show ¬b=k from fun e=> hne e.symm]⟩
theorem BMap.entry2 {κ:Type} [DecidableEq κ] {w:World} {K:κ→Value} {b:Nat} {f:κ→Option Value} {P:Program} {t k e:TypeId} {z:Value} (ht:P.underlying t=some (.map k e)) (hk:KeyOk P k K) (hz:∀ u:World,(zeroValue e).run P u= .ok z u) (h:BMap w K b f) (x:κ) (hx:f x=none):
  ∃ (st:Nat) (o:Obj) (w1:World),(Instr.mapEntry t (.map (some b)) (K x)).run P w= .ok (.tuple #[z, .int .i64 st]) w1∧Mod (fun y=> y=b) w w1∧w1.heap[b]? =some o∧
   ∀ (w2:World) (u:Value),w2.heap[b]? =some o→∃ w3,(Instr.entryStore t (.map (some b)) (.int .i64 st) u).run P w2= .ok () w3∧Mod (fun y=> y=b) w2 w3∧BMap w3 K b (fun y=> if y=x then some u else f y):=by
 have hlb:=h.g.lt
 obtain ⟨st,o,h1,h2⟩:=h.entry ht hk hz x hx
 refine ⟨st,o,_,h1,putMod w b o,by simp [hlb],fun w2 u hw2=> ?_⟩
 obtain ⟨o',h3,h4⟩:=h2 w2 u hw2
 exact ⟨_,h3,putMod w2 b o',h4⟩
def LdI (A:ASt) (d:Nat) (t:TK) (g0 c0:Nat) (w:World) (X:List Value) (xb mb x:Nat) (wr:World) (K c:Nat):Prop:=
 ∃ B ow M,SAt wr ow x B (lst A d t g0 c0 (upd1 (fun _=> 0) c0 t.weight) K c)∧Mod No w wr∧(∀ b,ow b≠ .no→w.heap.size≤b)∧BMap wr k2v mb M∧ow mb= .no∧ow xb= .no∧Row wr xb 7 (fl X)∧MInv A d t g0 c0 wr w.heap.size ow mb M K c
theorem MInv.start {A:ASt} {d:Nat} {t:TK} {g0 c0:Nat} (H:ROk A d t g0 c0) {w:World} {z:Nat} {ow:Nat→Own} {mb b:Nat} (cap:Nat) (p:K2) (hp1:p.1.val=g0) (hp2:p.2.val=c0) (hr:Row w b 4 (fl [.int .i64 t.id, .int .u64 t.v, .int .u32 t.r, .int .u32 t.weight])) (h1:ow b= .no) (h2:b≠mb) (h3:z≤b):
  MInv A d t g0 c0 w z ow mb (fun y=> if y=p then some (slc b 1 cap) else none) A.G 0:=by
 have hid:=lid H
 have h0:lcm_ A d t g0 g0=some (t.id,t.weight):=by
  unfold lcm_
  cases d <;> simp [chn]
 refine ⟨fun q v hM=> ?_,fun q m k h4 h5 h6=> ?_⟩
 ·try dsimp only at hM
  split at hM
  ·rename_i e;subst e
   exact ⟨hp2,_,_,by rw [hp1];exact h0, .inl hid.2⟩
  ·cases hM
 ·rcases lcm_mem H h5 with ⟨e1,rfl,rfl⟩|⟨e1,h',e2,e3,e4,rfl,rfl,_⟩
  ·obtain rfl:q=p:=Prod.ext (Fin.ext (by omega)) (Fin.ext (by omega))
   refine ⟨b,cap,if_pos rfl, ?_,h1,h2,h3⟩
   unfold lvr
   rw [if_pos hid.2]
   exact hr
  ·rcases h6 with h6|⟨h'',e5,e6⟩
   ·omega
   ·unfold Dn at e6;omega
section
variable {A:ASt} {d:Nat}
set_option maxRecDepth 100000 in
set_option maxHeartbeats 4000000 in
theorem Load_ok (t:TK) (g0 c0:Nat) (H:ROk A d t g0 c0) (w:World) (ows:Nat→SOwn) (BS:STB) (hs:StAt w ows BS A):
  Calls Tryz.prog 100 #[stv BS A] w fun e w' => ∃ x B ow,e= .returned (.tuple #[ptr x, .int .i64 0])∧Mod No w w' ∧SAt w' ow x B (lst A d t g0 c0 (upd1 (fun _=> 0) c0 t.weight) 0 0)∧(∀ b,ow b≠ .no→w.heap.size≤b):=by
 obtain ⟨tb,tc,htv,htb,RT⟩:=hs.t1 H.ht
 have hG:=H.T.g2
 have hG1:=H.T.g1
 have hg0:=H.hg0
 have hc0:=H.hc0
 obtain ⟨hrd,_,_,_,id0,id1⟩:=H.one.ok t H.ht
 have hC64:A.C≤64:=by have:=H.C;omega
 have hC1:1≤A.C:=by have:=H.C;omega
 have HI:=Lib.hid (And.intro H (And.intro hs htv))
 rw [show stv BS A= .agg #[.int .i64 A.C, .int .u64 A.cr,slc BS.gb A.G BS.gcap,slc BS.cl A.C BS.ccap,slc BS.cu A.C BS.ucap,slc tb 1 tc,slc BS.so A.G BS.scap] from by rw [←htv]]
 clear htv H
 go_enter Tryz.func100,Tryz.ntmps100
 go_upto_region 1 with fail
 refine wp_world (fun V=> Mod No w V∧Row V w.heap.size 7 (fl [.int .i64 A.C, .int .u64 A.cr,slc BS.gb A.G BS.gcap,slc BS.cl A.C BS.ccap,slc BS.cu A.C BS.ucap,slc tb 1 tc,slc BS.so A.G BS.scap])) ⟨(Mod.refl No w).alloc _,row_newL w [_,_,_,_,_,_,_] _⟩ ?_
 intro V0 ⟨mV0,XV0⟩
 obtain ⟨xb,hxb⟩:∃ n,n=w.heap.size:=⟨_,rfl⟩
 rw [←hxb] at XV0 ⊢
 have lxb:w.heap.size≤xb:=by omega
 clear hxb
 have lX0:=XV0.lt
 have u0:=XV0.cL 0 _ (by omega) rfl
 have u1:=XV0.cL 1 _ (by omega) rfl
 have u2:=XV0.cL 2 _ (by omega) rfl
 have u3:=XV0.cL 3 _ (by omega) rfl
 have u4:=XV0.cL 4 _ (by omega) rfl
 have u5:=XV0.cL 5 _ (by omega) rfl
 have u6:=XV0.cL 6 _ (by omega) rfl
 go_wp2_with fail
 refine (show Calls Tryz.prog 184 #[.agg #[.int .i64 A.C, .int .u64 A.cr,slc BS.gb A.G BS.gcap,slc BS.cl A.C BS.ccap,slc BS.cu A.C BS.ucap,slc tb 1 tc,slc BS.so A.G BS.scap]] V0 _ from by rw [←HI.out.2.2];exact right_ok t g0 c0 HI.out.1 V0 ows BS (hs.no mV0)).mono ?_;rintro e w1 ⟨rfl,hb1⟩
 have n1:=Mod.of_below hb1 No
 have m1:Mod No w w1:=Mod.trans mV0 n1 (fun _ _ h=> h)
 have X1:=XV0.mod n1 (fun h=> h)
 clear u0 u1 u2 u3 u4 u5 u6 lX0 XV0 mV0 n1 hb1
 have lX:=X1.lt
 have x0:=X1.cL 0 _ (by omega) rfl
 have x1:=X1.cL 1 _ (by omega) rfl
 have x2:=X1.cL 2 _ (by omega) rfl
 go_wp2_with fail
 refine (schedNew A.C A.cr BS.gb A.G BS.gcap A.par A.wt hC1 hC64 HI.out.1.cr.1 HI.out.1.cr.2 HI.out.1.T w1 ((hs.no m1).1 .gb).2).mono ?_;rintro e w2 ⟨x,B,ow,rfl,n2,S2,hlo⟩
 have m2:Mod No w w2:=Mod.trans m1 n2 (fun _ _ h=> h)
 have X2:=X1.mod n2 (fun h=> h)
 have hz1:=m1.size
 have lX1:=X1.lt
 clear x0 x1 x2 lX X1 n2
 have hlow:∀ b,ow b≠ .no→w.heap.size≤b:=fun b hb=> by have:=hlo b hb;omega
 have oxb:ow xb= .no:=Classical.byContradiction fun hh=> by have:=hlo _ hh;omega
 have lX:=X2.lt
 obtain ⟨k1,k2,k3,k4,k5,k6,k7,k8,k9,k10⟩:=(S2.no (Mod.refl No w2).drew).look
 have lx2:=S2.cx.2.lt
 have x3:=X2.cL 3 _ (by omega) rfl
 go_upto_region 6 with fail
 (refine wp_region_tail 6 (by kernel_rfl) (by kernel_rfl) ?_;simp only [List.take_succ_cons,List.take_zero,List.drop_succ_cons,List.drop_zero];repeat still_step);refine wpStill_nil ?_
 refine wpList_copyRow rfl _ _ 44 44 rfl 3 Tryz.underlying44 (by kernel_rfl) B.cb BS.cl A.C B.ccap BS.ccap (ints fun _=> 0) (ints A.clocks) rfl rfl ((S2.no (Mod.refl No w2).drew).1 .cb).2 ((hs.no m2.drew).1 .cl).2 (fun i _=> rfl) ?_
 intro w3 n3 R3
 have ocb:=(S2.1 .cb).1
 have S3:=(S2.no (Mod.refl No w2).drew).setClks A.clocks n3 R3
 have wlcb:=hlow B.cb (by rw [ocb];simp)
 have m3:Mod No w w3:=Mod.trans m2.drew n3 (fun b hb e=> by omega)
 have X3:=X2.drew.mod n3 (fun e=> by rw [←e,oxb] at ocb;cases ocb)
 clear x3 k1 k2 k3 k4 k5 k6 k7 k8 k9 k10 X2 n3 R3 lX
 have lX:=X3.lt
 obtain ⟨k1,k2,k3,k4,k5,k6,k7,k8,k9,k10⟩:=(S3.no (Mod.refl No w3).drew).look
 have lx2:=S3.cx.2.lt
 have x4:=X3.cL 4 _ (by omega) rfl
 go_upto_region 7 with fail
 (refine wp_region_tail 6 (by kernel_rfl) (by kernel_rfl) ?_;simp only [List.take_succ_cons,List.take_zero,List.drop_succ_cons,List.drop_zero];repeat still_step);refine wpStill_nil ?_
 refine wpList_copyRow rfl _ _ 44 44 rfl 3 Tryz.underlying44 (by kernel_rfl) B.ub BS.cu A.C B.ucap BS.ucap (ints fun _=> 0) (ints A.current) rfl rfl ((S3.no (Mod.refl No w3).drew).1 .ub).2 ((hs.no m3.drew).1 .cu).2 (fun i _=> rfl) ?_
 intro w4 n4 R4
 have oub:=(S3.1 .ub).1
 have S4:=(S3.no (Mod.refl No w3).drew).setCurs A.current n4 R4
 have wlub:=hlow B.ub (by rw [oub];simp)
 have m4:Mod No w w4:=Mod.trans m3.drew n4 (fun b hb e=> by omega)
 have X4:=X3.drew.mod n4 (fun e=> by rw [←e,oxb] at oub;cases oub)
 clear x4 k1 k2 k3 k4 k5 k6 k7 k8 k9 k10 X3 n4 R4 S3 S2 m3 m2 lX lx2 m1 ocb oub wlcb wlub
 have lX:=X4.lt
 have lx2:=S4.cx.2.lt
 have hz4:=m4.size
 have hmm:= @run_makeMap Tryz.prog
 go_upto_region 9 with fail
 refine wp_world (fun V=> Mod No w4 V∧BMap V k2v w4.heap.size (fun _=> none)) ⟨(Mod.refl No w4).alloc _,BMap.new w4 k2v _ rfl⟩ ?_
 intro V ⟨mV,MV⟩
 have onb:ow w4.heap.size= .no:=Classical.byContradiction fun hh=> by have:=S4.2 _ hh;omega
 obtain ⟨mb,hmb⟩:∃ n,n=w4.heap.size:=⟨_,rfl⟩
 rw [←hmb] at MV onb ⊢
 have lmb:w.heap.size≤mb:=by omega
 have lmx:xb < mb:=by omega
 clear hmb
 clear hmm
 have S5:=S4.no mV
 have m5:Mod No w V:=Mod.trans m4 mV (fun _ _ h=> h)
 have X5:=X4.mod mV (fun h=> h)
 clear X4 S4 m4 mV lX lx2 hz4
 have lX:=X5.lt
 have x5:=X5.cL 5 _ (by omega) rfl
 have HP:=Lib.hid (And.intro X5 (And.intro MV (And.intro S5 (And.intro m5 (And.intro hlow (And.intro onb oxb))))))
 have hrow:Row V tb 8 (fl [.int .i64 t.id, .int .i64 g0, .int .i64 t.weight, .int .i64 c0, .int .u64 t.mask, .bool true, .int .u64 t.v, .int .u32 t.r]):=by
  have:=RT.mod m5 (fun h=> h)
  rw [tkc,HI.out.1.htg,HI.out.1.htc,hrd] at this
  exact this
 have HR:=Lib.hid hrow
 have htk:∃ T:TSt,T=⟨t.id,t.group,t.weight,t.cpu,t.mask,t.ready,t.v,t.r,t.weight⟩∧trow T=fl [.int .i64 g0, .int .i64 t.weight, .int .i64 c0, .int .u64 t.mask, .bool true, .int .u64 t.v, .int .u32 t.r, .int .u32 t.weight]:=⟨_,rfl,by rw [hrd,←HI.out.1.htg,←HI.out.1.htc];rfl⟩
 have HT:=Lib.hid htk
 have hw1:=HI.out.1.w1
 have hw2:=HI.out.1.w2
 have hwt:IntKind.u32.wrap t.weight=t.weight:=by rw [IntKind.wrap_u32];omega
 have hs' :=Lib.hid hs
 clear hrow htk hrd X5 MV S5 m5 hlow onb oxb RT htb hs
 go_wp2
 go_loopw [46] (fun s46 wr=> ∃ i:Nat,s46= .int .i64 i∧((i=0∧wr=V)∨(i=1∧LdI A d t g0 c0 w [.int .i64 A.C, .int .u64 A.cr,slc BS.gb A.G BS.gcap,slc BS.cl A.C BS.ccap,slc BS.cu A.C BS.ucap,slc tb 1 tc,slc BS.so A.G BS.scap] xb mb x wr A.G 0))) (fun s46 _=> 1 - (RowKit.intOf s46).toNat)
 case atStart=> exact ⟨0,rfl, .inl ⟨rfl,rfl⟩⟩
 case round=>
  obtain ⟨i,rfl,⟨rfl,rfl⟩|⟨rfl,hL⟩⟩:=hrel
  ·have RTV:=HR.out
   have ltb:=RTV.lt
   have v0:=RTV.cL 0 _ (by omega) rfl
   have v1:=RTV.cL 1 _ (by omega) rfl
   have v2:=RTV.cL 2 _ (by omega) rfl
   have v3:=RTV.cL 3 _ (by omega) rfl
   have v4:=RTV.cL 4 _ (by omega) rfl
   have v5:=RTV.cL 5 _ (by omega) rfl
   have v6:=RTV.cL 6 _ (by omega) rfl
   have v7:=RTV.cL 7 _ (by omega) rfl
   go_upto_region 12 with fail
   refine wp_world (fun U=> Mod No wr U∧Row U wr.heap.size 8 (fl [.int .i64 t.id, .int .i64 g0, .int .i64 t.weight, .int .i64 c0, .int .u64 t.mask, .bool true, .int .u64 t.v, .int .u32 t.r])) ⟨(Mod.refl No wr).alloc _,row_newL wr [_,_,_,_,_,_,_,_] _⟩ ?_
   intro U ⟨mU,KU⟩
   obtain ⟨kb,hkb⟩:∃ n,n=wr.heap.size:=⟨_,rfl⟩
   rw [←hkb] at KU ⊢
   have lkb:mb < kb:=by rw [hkb];exact HP.out.2.1.g.lt
   have lkx:wr.heap.size≤kb:=by omega
   clear v0 v1 v2 v3 v4 v5 v6 v7 hkb x5 lX
   have lKU:=KU.lt
   have v0:=KU.cL 0 _ (by omega) rfl
   have v1:=KU.cL 1 _ (by omega) rfl
   have v2:=KU.cL 2 _ (by omega) rfl
   have v3:=KU.cL 3 _ (by omega) rfl
   have v4:=KU.cL 4 _ (by omega) rfl
   have v5:=KU.cL 5 _ (by omega) rfl
   have v6:=KU.cL 6 _ (by omega) rfl
   have v7:=KU.cL 7 _ (by omega) rfl
   go_upto_region 13 with fail
   refine wp_world (fun U2=> Mod No wr U2∧Row U2 kb 8 (fl [.int .i64 t.id, .int .i64 g0, .int .i64 t.weight, .int .i64 c0, .int .u64 t.mask, .bool true, .int .u64 t.v, .int .u32 t.r])∧Row U2 U.heap.size 8 (fl [.int .i64 g0, .int .i64 t.weight, .int .i64 c0, .int .u64 t.mask, .bool true, .int .u64 t.v, .int .u32 t.r, .int .u32 t.weight])) ⟨mU.alloc _,KU.alloc _,row_newL U [_,_,_,_,_,_,_,_] _⟩ ?_
   intro U2 ⟨mU2,KU2,TU2⟩
   obtain ⟨tk,htk⟩:∃ n,n=U.heap.size:=⟨_,rfl⟩
   rw [←htk] at TU2 ⊢
   have ltk:kb < tk:=by omega
   clear v0 v1 v2 v3 v4 v5 v6 v7 htk KU lKU mU
   have lKU:=KU2.lt
   have lTU:=TU2.lt
   have v0:=KU2.cL 0 _ (by omega) rfl
   obtain ⟨X5,MV,S5,m5,hlow,onb,oxb⟩:=HP.out
   have S6:=S5.no mU2
   have x5:=S6.look.2.2.2.2.2.1
   have lx2:=S6.cx.2.lt
   have him:=(S6.no (Mod.refl No U2).drew).1 .tb
   simp only [Part,tmapv,fresh] at him
   have hwz:=m5.size
   (refine wp_region_tail 7 (by kernel_rfl) (by kernel_rfl) ?_;simp only [List.take_succ_cons,List.take_zero,List.drop_succ_cons,List.drop_zero];repeat still_step);refine wpStill_nil ?_
   refine wpList_mapUpdate rfl _ _ _ _ rfl _ _ Tryz.underlying127 Tryz.underlying3 (q:= .i64) (b:=B.tb) (l:= []) him.2 t.id (ptr tk) rfl rfl rfl ?_
   intro U3 hp hi
   obtain ⟨T,hT,hTr⟩:=HT.out
   have notb:∀ b,ow b= .no→¬b=B.tb:=fun b hb e=> by rw [e,him.1] at hb;cases hb
   have lr:∀ b,ow b≠ .no→b < wr.heap.size:=S5.2
   have okb:ow kb= .no:=Classical.byContradiction fun hh=> by have:=lr _ hh;omega
   have otk:ow tk= .no:=Classical.byContradiction fun hh=> by have:=lr _ hh;omega
   have mp:Mod (One B.tb) wr U3:=Mod.trans ((mU2.drew).no _) hp.mod (fun _ _ h=> h)
   have hTK:Row U3 tk 8 (trow T):=by
    rw [hTr]
    exact TU2.drew.mod hp.mod (notb _ otk)
   have S7:=S5.addTask T tk mp (by omega) hTK (by rw [show T.id=t.id from by rw [hT]];exact hi)
   have KU3:=KU2.drew.mod hp.mod (notb _ okb)
   have X7:=X5.mod mp (notb _ oxb)
   have M7:=MV.mod mp (notb _ onb)
   have wlow:w.heap.size≤B.tb:=hlow _ (by rw [him.1];simp)
   have m7:Mod No w U3:=Mod.trans m5 mp (fun b hb e=> by have e' :b=B.tb:=e;omega)
   have hlow7:∀ b,(if b=tk then Own.tk else ow b)≠ .no→w.heap.size≤b:=fun b hb=> by
    split at hb
    ·omega
    ·exact hlow b hb
   have onb7:(if mb=tk then Own.tk else ow mb)= .no:=by rw [if_neg (by omega)];exact onb
   have oxb7:(if xb=tk then Own.tk else ow xb)= .no:=by rw [if_neg (by omega)];exact oxb
   have okb7:(if kb=tk then Own.tk else ow kb)= .no:=by rw [if_neg (by omega)];exact okb
   have hz3:=mp.size
   have hTKl:=hTK.lt
   have c5:=S7.look.2.2.2.2.2.2.2.2.1
   have HQ:=Lib.hid (And.intro S7 (And.intro m7 (And.intro hlow7 (And.intro onb7 (And.intro oxb7 (And.intro okb7 (And.intro hT hTr)))))))
   clear S7 m7 hlow7 onb7 oxb7 okb7 hT hTr hp hi S6 S5 mU2 TU2 KU2 X5 MV m5 hlow onb oxb him notb lr okb otk mp hTK wlow v0 x5 lx2 c5
   have lKU:=KU3.lt
   have v0:=KU3.cL 0 _ (by omega) rfl
   have v1:=KU3.cL 1 _ (by omega) rfl
   have v3:=KU3.cL 3 _ (by omega) rfl
   have v5:=KU3.cL 5 _ (by omega) rfl
   go_upto_region 16 with fail
   refine wp_world (fun U4=> Mod No U3 U4∧Row U4 U3.heap.size 2 (fl [.int .i64 g0, .int .i64 c0])) ⟨(Mod.refl No U3).alloc _,row_newL U3 [_,_] _⟩ ?_
   intro U4 ⟨m4,PU4⟩
   obtain ⟨pb,hpb⟩:∃ n,n=U3.heap.size:=⟨_,rfl⟩
   rw [←hpb] at PU4 ⊢
   have lpb:tk < pb:=by have:=hTKl;omega
   have lpb2:U3.heap.size≤pb:=by omega
   clear v0 v1 v3 v5 hpb
   obtain ⟨S7,m7,hlow7,onb7,oxb7,okb7,hT,hTr⟩:=HQ.out
   have TK4:=((S7.no m4).1 .tk T rfl).2
   rw [hTr] at TK4
   have KU4:=KU3.mod m4 (fun h=> h)
   have M4:=M7.mod m4 (fun h=> h)
   have X4:=X7.mod m4 (fun h=> h)
   have mS:∀ W,Mod (fun b=> b=mb) U4 W→W.cell? ⟨pb,0,none⟩=some (.int .i64 g0)∧W.cell? ⟨pb,1,none⟩=some (.int .i64 c0)∧W.cell? ⟨kb,0,none⟩=some (.int .i64 t.id)∧W.cell? ⟨tk,5,none⟩=some (.int .u64 t.v)∧W.cell? ⟨tk,6,none⟩=some (.int .u32 t.r)∧W.cell? ⟨tk,7,none⟩=some (.int .u32 t.weight):=fun W hm=> by
    have P:=PU4.mod hm (by omega)
    have K:=KU4.mod hm (by omega)
    have Q:=TK4.mod hm (by show ¬tk=mb;omega)
    exact ⟨P.cL 0 _ (by omega) rfl,P.cL 1 _ (by omega) rfl,K.cL 0 _ (by omega) rfl,Q.cL 5 _ (by omega) rfl,Q.cL 6 _ (by omega) rfl,Q.cL 7 _ (by omega) rfl⟩
   have lP:=PU4.lt
   have lK:=KU4.lt
   have lT:=TK4.lt
   have hz4:=m4.size
   have hz7:=m7.size
   obtain ⟨st,o1,U5,hme,mU5,hU5,hes⟩:=(M4.mod (w' :=(U4.alloc (.cells #[.int .i64 t.id, .int .u64 t.v, .int .u32 t.r, .int .u32 t.weight] 303)).drew) ((Mod.refl No U4).alloc _).drew (fun h=> h)).entry2 (t:=299) (e:=301) (z:= .slice none 0 0) (by kernel_rfl) k2_ok (fun u=> Tryz.zeroValue301 u) (⟨g0,by omega⟩,⟨c0,by omega⟩) rfl
   have hme' :(Instr.mapEntry 299 (.map (some mb)) (.agg #[.int .i64 g0, .int .i64 c0])).run Tryz.prog (U4.alloc (.cells #[.int .i64 t.id, .int .u64 t.v, .int .u32 t.r, .int .u32 t.weight] 303)).drew=_:=hme
   have HE:=Lib.hid (And.intro S7 (And.intro m7 (And.intro hlow7 (And.intro onb7 (And.intro oxb7 (And.intro okb7 (And.intro hT (And.intro hTr (And.intro M4 hes)))))))))
   clear S7 m7 hlow7 onb7 oxb7 okb7 hT hTr hes hme
   refine wp_region_chain (fun W=> W.cell? ⟨pb,0,none⟩=some (.int .i64 g0)∧W.cell? ⟨pb,1,none⟩=some (.int .i64 c0)∧W.cell? ⟨kb,0,none⟩=some (.int .i64 t.id)∧W.cell? ⟨tk,5,none⟩=some (.int .u64 t.v)∧W.cell? ⟨tk,6,none⟩=some (.int .u32 t.r)∧W.cell? ⟨tk,7,none⟩=some (.int .u32 t.weight)) [9,10,12,14] [11,13] [14] (rds [0,1,2,3,4,5,6,7,8] (.ef 9 (.ef 10 (rds [11,13] (.ef 12 (.ef 14 .nil)))))) (by kernel_rfl) (by kernel_rfl) (mS _ (Mod.refl _ U4).drew) ?_
   intro OO hO
   have HO:=Lib.hid hO
   clear hO
   simp only [rds]
   (repeat (first|(refine lxp HO (v:=?_) (fun w'=> ?_) ?_;rotate_left;(focus (go_simp;(try exact rfl);done));try go_simp)|(refine lxr HO (v:=?_) (fun w' hC'=> ?_) ?_;rotate_left;(focus (obtain ⟨c1,c2,c3,c4,c5,c6⟩:=hC';go_simp;(try exact rfl);done));try go_simp)|(refine lxo HO ?_;try go_simp)))
   (refine lxe HO (fun K hK=> ?_);go_simp;refine hK _ _ ?_ ?_;all_goals clear hK K)
   ·exact .inr (mS _ ((Mod.refl _ U4).drew.alloc _))
   have nU5:Mod (fun b=> b=mb) U4 U5:=Mod.trans (((Mod.refl No U4).alloc _).drew.no _) mU5 (fun _ _ h=> h)
   have hz5:=mU5.size
   simp only [World.size_alloc,World.size_drew] at hz5
   (refine lxe HO (fun K hK=> ?_);go_simp;refine hK _ _ ?_ ?_;all_goals clear hK K)
   ·exact .inr (mS _ nU5)
   (repeat (first|(refine lxp HO (v:=?_) (fun w'=> ?_) ?_;rotate_left;(focus (go_simp;(try exact rfl);done));try go_simp)|(refine lxr HO (v:=?_) (fun w' hC'=> ?_) ?_;rotate_left;(focus (obtain ⟨c1,c2,c3,c4,c5,c6⟩:=hC';go_simp;(try exact rfl);done));try go_simp)|(refine lxo HO ?_;try go_simp)))
   refine lxe HO (fun Kx hKx=> ?_)
   refine step_app_c 303 _ 4 24 Tryz.infoSMem rfl _ _ 301 rfl Tryz.underlying301 rfl (by decide) (by decide) [.int .i64 t.id, .int .u64 t.v, .int .u32 t.r, .int .u32 t.weight] rfl (by simp [Value.oneCell']) w.heap.size (.slice none 0 0) 0 [] _ _ rfl rfl (by omega) (by omega) (World.ownsRow_nil _ _ _ _) (Row.mod (Row.drew (row_newL U4 [_,_,_,_] _)) mU5 (by omega)) ?_
   intro gs ct wA hA
   obtain ⟨S7,m7,hlow7,onb7,oxb7,okb7,hT,hTr,M4,hes⟩:=HE.out
   have mA0:=hA.mod.mono (T:=No) (fun b _ e=> by cases e)
   have mA:Mod (fun b=> b=mb) U4 wA:=Mod.trans nU5 (mA0.no _) (fun _ _ h=> h)
   obtain ⟨w6,hst,m6,M6⟩:=hes wA (slc gs 1 ct) (mA0.heap hU5 (fun h=> h))
   have hst' :(Instr.entryStore 299 (.map (some mb)) (.int .i64 st) (slc gs 1 ct)).run Tryz.prog wA= .ok () w6:=hst
   refine hKx _ _ (.inr (mS _ mA)) ?_
   clear hKx Kx
   (refine lxe HO (fun K hK=> ?_);go_simp;refine hK _ _ (.inl (by rfl)) ?_;clear hK K)
   refine wpL_nil ?_
   clear hst hst' hme' HO
   have m46:Mod (fun b=> b=mb) U4 w6:=Mod.trans mA m6 (fun _ _ h=> h)
   have gl:=hA.at_.resolve_left (by intro e;cases e)
   have hz6:=m46.size
   have rowG:Row w6 gs 4 (fl [.int .i64 t.id, .int .u64 t.v, .int .u32 t.r, .int .u32 t.weight]):=(ownsRow_row hA.own).mod m6 (by omega)
   have S8:=(S7.no m4).mod m46 (by rintro b rfl;exact onb7)
   have m8:Mod No w w6:=Mod.trans (Mod.trans m7 m4 (fun _ _ h=> h)) m46 (fun b hb e=> by omega)
   have X8:=X4.mod m46 (by omega)
   have KU8:=KU4.mod m46 (by omega)
   have lgo:(if gs=tk then Own.tk else ow gs)= .no:=Classical.byContradiction fun hh=> by have:=S7.2 _ hh;omega
   clear S7 m7 m46 m6 mA mA0 hA nU5 mU5 M4 hes X4 KU4 TK4 mS lP lK lT PU4
   have lKU8:=KU8.lt
   have v2:=KU8.cL 2 _ (by omega) rfl
   have v3:=KU8.cL 3 _ (by omega) rfl
   have k8:w6.cell? ⟨x,8,none⟩=some (slc B.lb A.C B.lcap):=S8.look.2.2.2.2.2.2.2.2.1
   have klb:w6.cell? ⟨B.lb,c0,none⟩=some (.int .i64 0):=(S8.1 .lb).2.cell (i:=c0) hc0
   have lx8:=S8.cx.2.lt
   have llb:=(S8.1 .lb).2.lt
   have flb:=(S8.1 .lb).2.free c0
   have j0:(0:Int)≤c0:=by omega
   have j1:(c0:Int) < A.C:=by omega
   have HS:=Lib.hid (And.intro S8 (And.intro m8 (And.intro hlow7 (And.intro onb7 (And.intro oxb7 (And.intro hT (And.intro hTr (And.intro M6 (And.intro rowG lgo)))))))))
   clear S8 m8 hlow7 onb7 oxb7 hT hTr M6 rowG lgo
   go_upto_region 17 with fail
   (refine wp_region_tail 12 (by kernel_rfl) (by kernel_rfl) ?_;simp only [List.take_succ_cons,List.take_zero,List.drop_succ_cons,List.drop_zero];repeat still_step);refine wpStill_nil ?_
   go_wp2
   obtain ⟨S8,m8,hlow7,onb7,oxb7,hT,hTr,M6,rowG,lgo⟩:=HS.out
   have hd9:∀ g c,g < A.G→¬Dn A.G 0 g c:=fun g c hg=> by unfold Dn;omega
   have S9:=((S8.setLoad (c:=c0) hc0 t.weight).no (Mod.refl No _).drew).congr (lst A d t g0 c0 (upd1 (fun _=> 0) c0 t.weight) A.G 0).qs (lst A d t g0 c0 (upd1 (fun _=> 0) c0 t.weight) A.G 0).aside
    (fun g c hg hc=> (show (lst A d t g0 c0 (upd1 (fun _=> 0) c0 t.weight) A.G 0).qs g c= .e 0 0 from if_neg (hd9 g c hg)).symm) (fun g c hg hc=> (show (lst A d t g0 c0 (upd1 (fun _=> 0) c0 t.weight) A.G 0).aside g c=(0,0) from if_neg (hd9 g c hg)).symm)
   have olb:=(S8.1 .lb).1
   have mL:Mod (fun b=> b=B.lb) w6 ((w6.setCell ⟨B.lb,c0,none⟩ (.int .i64 t.weight)).drew):=((Mod.refl (fun b=> b=B.lb) w6).setCell (p:=⟨B.lb,c0,none⟩) (.inr rfl) _).drew
   have nl:∀ b,(if b=tk then Own.tk else ow b)= .no→¬b=B.lb:=fun b hb e=> by rw [e] at hb;rw [show (if B.lb=tk then Own.tk else ow B.lb)= .lb from olb] at hb;cases hb
   have ll:w.heap.size≤B.lb:=hlow7 B.lb (by rw [show (if B.lb=tk then Own.tk else ow B.lb)= .lb from olb];simp)
   refine ⟨⟨1,by go_num, .inr ⟨rfl, { B with tk:=tk },_,_, ?_,Mod.trans m8 mL (fun b hb e=> by have e' :b=B.lb:=e;omega),hlow7,M6.mod mL (nl _ onb7),onb7,oxb7,X8.mod mL (nl _ oxb7),MInv.start HI.out.1 ct _ rfl rfl (rowG.mod mL (nl _ lgo)) lgo (by omega) (by omega)⟩⟩,by simp [RowKit.intOf]⟩
   subst hT
   exact S9
  ·rw [show ((1:Nat):Int)=(1:Int) from rfl]
   clear x5 HP HR HT lX hwt
   obtain ⟨XX,hXX⟩:∃ XX:List Value,XX= [.int .i64 A.C, .int .u64 A.cr,slc BS.gb A.G BS.gcap,slc BS.cl A.C BS.ccap,slc BS.cu A.C BS.ucap,slc tb 1 tc,slc BS.so A.G BS.scap]:=⟨_,rfl⟩
   have hX0:∃ B ow M,SAt wr ow x B (lst A d t g0 c0 (upd1 (fun _=> 0) c0 t.weight) A.G 0)∧Mod No w wr∧(∀ b,ow b≠ .no→w.heap.size≤b)∧BMap wr k2v mb M∧ow mb= .no∧ow xb= .no∧Row wr xb 7 (fl [.int .i64 A.C, .int .u64 A.cr,slc BS.gb A.G BS.gcap,slc BS.cl A.C BS.ccap,slc BS.cu A.C BS.ucap,slc tb 1 tc,slc BS.so A.G BS.scap])∧MInv A d t g0 c0 wr w.heap.size ow mb M A.G 0:=hL
   rw [←hXX] at hL
   have HX:=Lib.hid hXX
   clear hXX
   obtain ⟨_,_,_,_,_,_,_,_,_,X0,_⟩:=hX0
   have x6:=X0.cL 6 _ (by omega) rfl
   have lX:=X0.lt
   have HL0:=Lib.hid hL
   clear hL
   go_wp2
   go_loopw [11] (fun s11 wo=> ∃ K:Nat,s11= .int .i64 ((K:Int) - 1)∧K≤A.G∧LdI A d t g0 c0 w XX xb mb x wo K 0) (fun s11 _=> (RowKit.intOf s11+1).toNat)
   case atStart=> exact ⟨A.G,by go_num,Nat.le_refl _,HL0.out⟩
   case round=>
    obtain ⟨K,rfl,hK,hL⟩:=hrel
    clear x6 lX X0 HL0
    rcases K with _|g
    ·go_wp2
     obtain ⟨B,ow,M,S,m,hlow,_⟩:=hL
     exact bodyPost_ret (v:= .tuple #[ptr x, .int .i64 0]) (by simp [results,Tryz.results100,go_sem, *]) rfl ⟨x,B,ow,rfl,m,S,hlow⟩
    ·rw [show (((g+1:Nat):Int) - 1)=(g:Int) from by omega]
     have i0:(0:Int)≤g:=by omega
     have i1:(g:Int) < A.G:=by omega
     have hLo:=Lib.hid hL
     obtain ⟨B0,ow0,M0,S0,m0,_,_,_,_,X0,_⟩:=hL
     have gl:g < A.G:=by omega
     rw [HX.out] at X0
     have x6:=X0.cL 6 _ (by omega) rfl
     have lX:=X0.lt
     have so:=((hs'.out.no m0).sp gl hc0).1
     have lso:=((hs'.out.no m0).1 .so).2.lt
     clear S0
     go_wp2
     go_loopw [125] (fun s125 wi=> ∃ c:Nat,s125= .int .i64 c∧c≤A.C∧LdI A d t g0 c0 w XX xb mb x wi (g+1) c) (fun s125 _=> A.C - (RowKit.intOf s125).toNat)
     case atStart=> exact ⟨0,rfl,by omega,hLo.out⟩
     case round=>
      obtain ⟨c,rfl,hcC,hL⟩:=hrel
      clear x6 lX so lso X0 hLo m0
      by_cases hc:c < A.C
      ·have j0:(0:Int)≤c:=by omega
       have j1:(c:Int) < A.C:=by omega
       obtain ⟨B,ow,M,S,m,hlow,BM,omb,oxb,X,I⟩:=hL
       have Sw:=hs'.out.no m
       obtain ⟨s0,s1,s2,s3⟩:=Sw.sp gl hc
       have lsi:=(Sw.1 (.si g) gl).2.lt
       have HA:=Lib.hid (And.intro S (And.intro m (And.intro hlow (And.intro BM (And.intro omb (And.intro oxb (And.intro X I)))))))
       clear S m hlow BM omb oxb X I Sw
       go_upto_region 25 with fail
       refine wp_world (fun U=> Mod No wr U∧Row U wr.heap.size 3 (fl [.int .u64 (A.spots g c).1, .int .u32 (A.spots g c).2.1, .int .u64 (A.spots g c).2.2])) ⟨(Mod.refl No wr).alloc _,row_newL wr [_,_,_] _⟩ ?_
       intro U ⟨mU,NU⟩
       obtain ⟨nb,hnb⟩:∃ n,n=wr.heap.size:=⟨_,rfl⟩
       rw [←hnb] at NU ⊢
       have lnb:wr.heap.size≤nb:=by omega
       clear hnb s0 s1 s2 s3 lsi
       obtain ⟨S,m,hlow,BM,omb,oxb,X,I⟩:=HA.out
       have S1:=S.no mU
       have x6:=S1.look.2.2.2.2.2.2.1
       obtain ⟨q0,q1⟩:=S1.qp (g:=g) (c:=c) gl hc
       have lx:=S1.cx.2.lt
       have lqo:=(S1.1 .qo).2.lt
       have lqi:=(S1.1 (.qi g) gl).2.lt
       have lNU:=NU.lt
       have g256:g < 256:=by omega
       have c64:c < 64:=by omega
       have hlk:(Instr.lookup 299 (.map (some mb)) (.agg #[.int .i64 g, .int .i64 c]) false).run Tryz.prog U= .ok ((M (⟨g,g256⟩,⟨c,c64⟩)).getD (.slice none 0 0)) U:=
        (BM.mod mU (fun h=> h)).g.look (t:=299) (e:=301) (by kernel_rfl) k2_ok (Tryz.zeroValue301 U) (⟨g,g256⟩,⟨c,c64⟩)
       obtain ⟨mv,hmv⟩:∃ v,v=(M (⟨g,g256⟩,⟨c,c64⟩)).getD (.slice none 0 0):=⟨_,rfl⟩
       rw [←hmv] at hlk
       have hfill:=lfill HI.out.1 S1 (I.mod mU (fun _ h=> h.elim) (fun _ _=> rfl)) gl hc (⟨g,g256⟩,⟨c,c64⟩) rfl rfl
       rw [←hmv] at hfill
       have HF:=Lib.hid hfill
       clear hfill hmv S m hlow BM omb oxb X I S1
       go_wp2_with fail
       refine HF.out.mono ?_;rintro e w1 ⟨rfl,n1,ow1,ho1,S1⟩
       obtain ⟨S,m,hlow,BM,omb,oxb,X,I⟩:=HA.out
       have onb:ow nb= .no:=Classical.byContradiction fun hh=> by have:=S.2 _ hh;omega
       have NU1:=NU.mod n1 (by show ¬ow nb=_;rw [onb];simp)
       have ho1n:ow1 nb= .no:=by rw [ho1 _ NU.lt];exact onb
       have hzU:=mU.size
       have hz1:=n1.size
       clear x6 q0 q1 lx lqo lqi lNU hlk S hlow BM omb oxb X I m
       have c2:=NU1.cL 2 _ (by omega) rfl
       have lNU:=NU1.lt
       go_wp2_with fail
       refine (sRaise S1 (g:=g) (c:=c) gl hc _).mono ?_;rintro e w2 ⟨rfl,n2,S2⟩
       have S2:SAt w2 (ext ow1 w1 w2 (.q g c)) x B { lst A d t g0 c0 (upd1 (fun _=> 0) c0 t.weight) (g+1) c with qs:=upd2 (upd2 (lst A d t g0 c0 (upd1 (fun _=> 0) c0 t.weight) (g+1) c).qs g c (lqf A d t g0 c0 g c)) g c ((lqf A d t g0 c0 g c).raise (A.spots g c).2.2) }:=by
        have h:=S2
        rw [show ({ lst A d t g0 c0 (upd1 (fun _=> 0) c0 t.weight) (g+1) c with qs:=upd2 (lst A d t g0 c0 (upd1 (fun _=> 0) c0 t.weight) (g+1) c).qs g c (lqf A d t g0 c0 g c) }:SSt).qs g c=lqf A d t g0 c0 g c from upd2_same _ _ _ _] at h
        exact h
       obtain ⟨ow2,how2⟩:∃ f,f=ext ow1 w1 w2 (.q g c):=⟨_,rfl⟩
       rw [←how2] at S2
       have ho2:∀ b,b < w1.heap.size→ow2 b=ow1 b:=fun b hb=> by rw [how2];exact ext_old hb
       clear how2 c2
       have NU2:=NU1.mod n2 (by show ¬ow1 nb=_;rw [ho1n];simp)
       have ho2n:ow2 nb= .no:=by rw [ho2 _ lNU];exact ho1n
       have oai:=(S2.1 (.ai g) gl).1
       have dx:x≠B.ai g:=fun e=> by have:=S2.cx.1;rw [e,oai] at this;cases this
       have dao:B.ao≠B.ai g:=fun e=> by have:=(S2.1 .ao).1;rw [e,oai] at this;cases this
       have dnb:nb≠B.ai g:=fun e=> by rw [←e,ho2n] at oai;cases oai
       have Xr:=S2.cx.2
       have Ar:=(S2.1 .ao).2
       have mS:∀ W,Mod (fun b=> b=B.ai g) w2 W→W.cell? ⟨x,7,none⟩=some (slc B.ao A.G B.acap)∧W.cell? ⟨B.ao,g,none⟩=some (slc (B.ai g) A.C A.C)∧W.cell? ⟨nb,0,none⟩=some (.int .u64 (A.spots g c).1)∧W.cell? ⟨nb,1,none⟩=some (.int .u32 (A.spots g c).2.1):=fun W hm=>
        ⟨(Xr.mod hm dx).cL 7 _ (by omega) rfl,(Ar.mod hm dao).cell gl,(NU2.mod hm dnb).cL 0 _ (by omega) rfl,(NU2.mod hm dnb).cL 1 _ (by omega) rfl⟩
       have f0:=(S2.1 (.ai g) gl).2.free (c * 3)
       have f1:=(S2.1 (.ai g) gl).2.free (c * 3+1)
       have a0:∃ v,w2.cell? ⟨B.ai g,c * 3,none⟩=some v:=⟨_,(S2.ap gl hc).2.1⟩
       have a1:∃ v,w2.cell? ⟨B.ai g,c * 3+1,none⟩=some v:=⟨_,(S2.ap gl hc).2.2.1⟩
       obtain ⟨av0,a0⟩:=a0
       obtain ⟨av1,a1⟩:=a1
       have lai:=(S2.1 (.ai g) gl).2.lt
       have HB:=Lib.hid (And.intro S2 (And.intro n1 (And.intro n2 (And.intro ho1 ho2))))
       clear S1 S2 n1 n2 ho1 ho2 Xr Ar NU NU1 ho1n
       go_upto_region 28 with fail
       refine wp_region_chain (fun W=> W.cell? ⟨x,7,none⟩=some (slc B.ao A.G B.acap)∧W.cell? ⟨B.ao,g,none⟩=some (slc (B.ai g) A.C A.C)∧W.cell? ⟨nb,0,none⟩=some (.int .u64 (A.spots g c).1)∧W.cell? ⟨nb,1,none⟩=some (.int .u32 (A.spots g c).2.1)) [22,25] [23,24] [25] (rds [0,1,2,3,4,5,6,7,8,9,10,11,12,13,14,15,16,17,18,19,20,21] (.ef 22 (rds [23,24] (.ef 25 .nil)))) (by kernel_rfl) (by kernel_rfl) (mS _ (Mod.refl _ w2).drew) ?_
       intro OO hO
       have HO:=Lib.hid hO
       clear hO
       simp only [rds]
       (repeat (first|(refine lxp HO (v:=?_) (fun w'=> ?_) ?_;rotate_left;(focus (go_simp;(try exact rfl);done));try go_simp)|(refine lxr HO (v:=?_) (fun w' hC'=> ?_) ?_;rotate_left;(focus (obtain ⟨c1,c2,c3,c4⟩:=hC';go_simp;(try exact rfl);done));try go_simp)|(refine lxo HO ?_;try go_simp)))
       (refine lxe HO (fun K hK=> ?_);go_simp;refine hK _ _ ?_ ?_;all_goals clear hK K)
       ·exact .inr (mS _ (((Mod.refl (fun b=> b=B.ai g) w2).setCell (p:=⟨B.ai g,c * 3,none⟩) (.inr rfl) _).drew))
       (repeat (first|(refine lxp HO (v:=?_) (fun w'=> ?_) ?_;rotate_left;(focus (go_simp;(try exact rfl);done));try go_simp)|(refine lxr HO (v:=?_) (fun w' hC'=> ?_) ?_;rotate_left;(focus (obtain ⟨c1,c2,c3,c4⟩:=hC';go_simp;(try exact rfl);done));try go_simp)|(refine lxo HO ?_;try go_simp)))
       (refine lxe HO (fun K hK=> ?_);go_simp;refine hK _ _ (.inl (by rfl)) ?_;clear hK K)
       refine wpL_nil ?_
       clear HO mS
       go_upto_region 29 with fail
       refine wp_world (fun W=> SAt W ow2 x B (lst A d t g0 c0 (upd1 (fun _=> 0) c0 t.weight) (g+1) (c+1))∧Mod (fun b=> b=B.ai g) w2 W) ⟨(lstep ((HB.out.1.setAside gl hc (A.spots g c).1 (A.spots g c).2.1).no (Mod.refl No _).drew)),(((Mod.refl (fun b=> b=B.ai g) w2).setCell (p:=⟨B.ai g,c * 3,none⟩) (.inr rfl) _).setCell (p:=⟨B.ai g,c * 3+1,none⟩) (.inr rfl) _).drew⟩ ?_
       intro W ⟨S4,n4⟩
       obtain ⟨S,m,hlow,BM,omb,oxb,X,I⟩:=HA.out
       obtain ⟨_,n1,n2,ho1,ho2⟩:=HB.out
       have hz2:=n2.size
       have hz4:=n4.size
       have hzm:=m.size
       have hoa:∀ b,b < wr.heap.size→ow2 b=ow b:=fun b hb=> by rw [ho2 b (by omega),ho1 b (by omega)]
       have hN1:Mod (fun b=> ow b= .q g c∨ow b= .ai g) wr w1:=Mod.trans (mU.no _) n1 (fun _ _ h=> .inl h)
       have hN2:Mod (fun b=> ow b= .q g c∨ow b= .ai g) wr w2:=Mod.trans hN1 n2 (fun b hb h=> .inl (by rw [←ho1 b (by omega)];exact h))
       have hN:Mod (fun b=> ow b= .q g c∨ow b= .ai g) wr W:=Mod.trans hN2 n4 (fun b hb h=> .inr (by rw [←hoa b hb,show b=B.ai g from h];exact oai))
       have hqa:∀ b,ow b= .no→¬(ow b= .q g c∨ow b= .ai g):=fun b hb h=> by rw [hb] at h;rcases h with h|h <;> cases h
       have m4:Mod No w W:=Mod.trans m hN (fun b hb h=> by
        have h0:ow b≠ .no:=by rcases h with h|h <;> (rw [h];simp)
        have:=hlow b h0;omega)
       have X4:=X.mod hN (hqa _ oxb)
       have BM4:=BM.mod hN (hqa _ omb)
       have I4:=I.mod hN (fun b h=> .inr (by rcases h with h|h <;> (rw [h];simp))) hoa
       have lxb2:=X.lt
       have lmb2:=BM.g.lt
       have oxb4:ow2 xb= .no:=by rw [hoa _ lxb2];exact oxb
       have omb4:ow2 mb= .no:=by rw [hoa _ lmb2];exact omb
       have hlow4:∀ b,ow2 b≠ .no→w.heap.size≤b:=fun b hb=> by
        by_cases hbw:b < wr.heap.size
        ·rw [hoa b hbw] at hb;exact hlow b hb
        ·omega
       have hlen:((lst A d t g0 c0 (upd1 (fun _=> 0) c0 t.weight) (g+1) (c+1)).qs g c).len=(lqf A d t g0 c0 g c).len:=by
        rw [show (lst A d t g0 c0 (upd1 (fun _=> 0) c0 t.weight) (g+1) (c+1)).qs g c=lq A d t g0 c0 g c from if_pos (by unfold Dn;omega)]
        unfold lq
        cases lqf A d t g0 c0 g c <;> rfl
       have aT:w2.heap.size≤W.heap.size:=hz4
       have HC:=Lib.hid (And.intro S4 (And.intro m4 (And.intro hlow4 (And.intro BM4 (And.intro omb4 (And.intro oxb4 (And.intro X4 (And.intro I4 hlen))))))))
       have lX4:=X4.lt
       clear S m hlow BM omb oxb X I n1 n2 n4 ho1 ho2 hoa hN hN1 hN2 hqa mU f0 f1 a0 a1 oai dx dao dnb ho2n onb hlow4 hlen I4 X4 BM4 m4 omb4 oxb4
       by_cases hgz:g=0
       ·have hg1:¬(0:Int) < g:=by omega
        have hg2:(g:Int)≤0:=by omega
        have hrel:LdI A d t g0 c0 w XX xb mb x W (g+1) (c+1):=by
         obtain ⟨S4,m4,hlow4,BM4,omb4,oxb4,X4,I4,_⟩:=HC.out
         exact ⟨B,ow2,M,S4,m4,hlow4,BM4,omb4,oxb4,X4,I4.stay HI.out.1 (.inl hgz)⟩
        have HR2:=Lib.hid hrel
        clear hrel hgz
        go_wp2
        exact ⟨⟨c+1,by go_num,by omega,HR2.out⟩,by (simp [RowKit.intOf] <;> omega)⟩
       ·have gpos:(0:Int) < g:=by omega
        go_wp2_with fail
        refine (sLen HC.out.1 (g:=g) (c:=c) gl hc).mono ?_;rintro e w5 ⟨rfl,rfl⟩
        rw [HC.out.2.2.2.2.2.2.2.2]
        by_cases hup:c=c0∧∃ m k,lcm_ A d t g0 g=some (m,k)
        ·have hl1:(lqf A d t g0 c0 g c).len=1:=by
          obtain ⟨h1,m',k',h2⟩:=hup
          unfold lqf
          rw [if_pos h1,h2]
          rfl
         rw [hl1,show ((1:Nat):Int)=1 from rfl]
         have HU:=Lib.hid hup
         clear hup hl1
         obtain ⟨pg,hpg⟩:∃ pg:Nat,A.par g=pg:=⟨(A.par g).toNat,by have:=(HI.out.1.T.parOk g (by omega) gl).1;omega⟩
         have lpg:pg < g:=by have:=(HI.out.1.T.parOk g (by omega) gl).2;omega
         have gp:W.cell? ⟨BS.gb,g * 2,none⟩=some (.int .i64 pg):=by rw [((hs'.out.no HC.out.2.1).gp gl).1,hpg]
         have lgb:=((hs'.out.no HC.out.2.1).1 .gb).2.lt
         have X4:Row W xb 7 (fl [.int .i64 A.C, .int .u64 A.cr,slc BS.gb A.G BS.gcap,slc BS.cl A.C BS.ccap,slc BS.cu A.C BS.ucap,slc tb 1 tc,slc BS.so A.G BS.scap]):=by
          have:=HC.out.2.2.2.2.2.2.1
          rwa [HX.out] at this
         have x2:=X4.cL 2 _ (by omega) rfl
         have HPG:=Lib.hid hpg
         clear hpg
         go_upto_region 31 with fail
         refine wp_world (fun W5=> Mod No W W5∧Row W5 W.heap.size 2 (fl [.int .i64 pg, .int .i64 c])) ⟨(Mod.refl No W).alloc _,row_newL W [_,_] _⟩ ?_
         intro W5 ⟨m5,PB⟩
         obtain ⟨pb,hpb⟩:∃ n,n=W.heap.size:=⟨_,rfl⟩
         rw [←hpb] at PB ⊢
         have lpb:W.heap.size≤pb:=by omega
         clear hpb gp lgb x2 X4
         obtain ⟨S4,m4,hlow4,BM4,omb4,oxb4,X4,I4,_⟩:=HC.out
         have S5:=S4.no m5
         have lPB:=PB.lt
         have dpb:¬pb=mb:=by omega
         have has:(lst A d t g0 c0 (upd1 (fun _=> 0) c0 t.weight) (g+1) (c+1)).aside g c=((A.spots g c).1,(A.spots g c).2.1):=if_pos (by unfold Dn;omega)
         have mS:∀ V,Mod (fun b=> b=mb) W5 V→V.cell? ⟨pb,0,none⟩=some (.int .i64 pg)∧V.cell? ⟨pb,1,none⟩=some (.int .i64 c)∧V.cell? ⟨x,7,none⟩=some (slc B.ao A.G B.acap)∧V.cell? ⟨B.ao,g,none⟩=some (slc (B.ai g) A.C A.C)∧V.cell? ⟨B.ai g,c * 3,none⟩=some (.int .u64 (A.spots g c).1)∧V.cell? ⟨B.ai g,c * 3+1,none⟩=some (.int .u32 (A.spots g c).2.1)∧V.cell? ⟨B.ai g,c * 3+2,none⟩=some (.int .u32 (A.wt g)):=fun V hm=> by
          have P:=PB.mod hm dpb
          have S6:=S5.mod hm (by rintro b rfl;exact omb4)
          obtain ⟨e1,e2,e3,e4⟩:=S6.ap gl hc
          rw [has] at e2 e3
          exact ⟨P.cL 0 _ (by omega) rfl,P.cL 1 _ (by omega) rfl,S6.look.2.2.2.2.2.2.2.1,e1,e2,e3,e4⟩
         have hz5:=m5.size
         have hwr:IntKind.i64.wrap (65536+(g:Int))=65536+(g:Int):=by rw [IntKind.wrap_i64];omega
         obtain ⟨st,o1,U5,hme,mU5,hU5,hes⟩:=(BM4.mod (w' :=(W5.alloc (.cells #[.int .i64 (65536+(g:Int)), .int .u64 (A.spots g c).1, .int .u32 (A.spots g c).2.1, .int .u32 (A.wt g)] 303)).drew) (m5.alloc _).drew (fun h=> h)).entry2 (t:=299) (e:=301) (z:= .slice none 0 0) (by kernel_rfl) k2_ok (fun u=> Tryz.zeroValue301 u) (⟨pg,by omega⟩,⟨c,c64⟩)
          (by obtain ⟨h1,mm,kk,h2⟩:=HU.out;exact (I4.up HI.out.1 (by omega) gl h1 h2 (⟨pg,by omega⟩,⟨c,c64⟩) HPG.out.symm rfl).1)
         have hme' :(Instr.mapEntry 299 (.map (some mb)) (.agg #[.int .i64 pg, .int .i64 c])).run Tryz.prog (W5.alloc (.cells #[.int .i64 (65536+(g:Int)), .int .u64 (A.spots g c).1, .int .u32 (A.spots g c).2.1, .int .u32 (A.wt g)] 303)).drew=_:=hme
         have nU5:Mod (fun b=> b=mb) W5 U5:=Mod.trans (((Mod.refl No W5).alloc _).drew.no _) mU5 (fun _ _ h=> h)
         have hzU5:=mU5.size
         simp only [World.size_alloc,World.size_drew] at hzU5
         have HE:=Lib.hid hes
         clear hes hme has S4 m4 hlow4 BM4 omb4 oxb4 X4 I4
         refine wp_region_chain (fun V=> V.cell? ⟨pb,0,none⟩=some (.int .i64 pg)∧V.cell? ⟨pb,1,none⟩=some (.int .i64 c)∧V.cell? ⟨x,7,none⟩=some (slc B.ao A.G B.acap)∧V.cell? ⟨B.ao,g,none⟩=some (slc (B.ai g) A.C A.C)∧V.cell? ⟨B.ai g,c * 3,none⟩=some (.int .u64 (A.spots g c).1)∧V.cell? ⟨B.ai g,c * 3+1,none⟩=some (.int .u32 (A.spots g c).2.1)∧V.cell? ⟨B.ai g,c * 3+2,none⟩=some (.int .u32 (A.wt g))) [15,16,18,20] [17,19] [20] (rds [0,1,2,3,4,5,6,7,8,9,10,11,12,13,14] (.ef 15 (.ef 16 (rds [17,19] (.ef 18 (.ef 20 .nil)))))) (by kernel_rfl) (by kernel_rfl) (mS _ (Mod.refl _ W5).drew) ?_
         intro OO hO
         have HO:=Lib.hid hO
         clear hO
         simp only [rds]
         (repeat (first|(refine lxp HO (v:=?_) (fun w'=> ?_) ?_;rotate_left;(focus (go_simp;(try exact rfl);done));try go_simp)|(refine lxr HO (v:=?_) (fun w' hC'=> ?_) ?_;rotate_left;(focus (obtain ⟨c1,c2,c3,c4,c5,c6,c7⟩:=hC';go_simp;(try exact rfl);done));try go_simp)|(refine lxo HO ?_;try go_simp)))
         (refine lxe HO (fun K hK=> ?_);go_simp;refine hK _ _ ?_ ?_;all_goals clear hK K)
         ·exact .inr (mS _ ((Mod.refl _ W5).drew.alloc _))
         (refine lxe HO (fun K hK=> ?_);go_simp;refine hK _ _ ?_ ?_;all_goals clear hK K)
         ·exact .inr (mS _ nU5)
         (repeat (first|(refine lxp HO (v:=?_) (fun w'=> ?_) ?_;rotate_left;(focus (go_simp;(try exact rfl);done));try go_simp)|(refine lxr HO (v:=?_) (fun w' hC'=> ?_) ?_;rotate_left;(focus (obtain ⟨c1,c2,c3,c4,c5,c6,c7⟩:=hC';go_simp;(try exact rfl);done));try go_simp)|(refine lxo HO ?_;try go_simp)))
         refine lxe HO (fun Kx hKx=> ?_)
         refine step_app_c 303 _ 4 24 Tryz.infoSMem rfl _ _ 301 rfl Tryz.underlying301 rfl (by decide) (by decide) [.int .i64 (65536+(g:Int)), .int .u64 (A.spots g c).1, .int .u32 (A.spots g c).2.1, .int .u32 (A.wt g)] rfl (by simp [Value.oneCell']) w.heap.size (.slice none 0 0) 0 [] _ _ rfl rfl (by omega) (by omega) (World.ownsRow_nil _ _ _ _) (Row.mod (Row.drew (row_newL W5 [_,_,_,_] _)) mU5 (by omega)) ?_
         intro gs ct wA hA
         have mA0:=hA.mod.mono (T:=No) (fun b _ e=> by cases e)
         have mA:Mod (fun b=> b=mb) W5 wA:=Mod.trans nU5 (mA0.no _) (fun _ _ h=> h)
         obtain ⟨w6,hst,m6,M6⟩:=HE.out wA (slc gs 1 ct) (mA0.heap hU5 (fun h=> h))
         have hst' :(Instr.entryStore 299 (.map (some mb)) (.int .i64 st) (slc gs 1 ct)).run Tryz.prog wA= .ok () w6:=hst
         refine hKx _ _ (.inr (mS _ mA)) ?_
         clear hKx Kx
         (refine lxe HO (fun K hK=> ?_);go_simp;refine hK _ _ (.inl (by rfl)) ?_;clear hK K)
         refine wpL_nil ?_
         clear hst hst' hme' HO mS
         have m46:Mod (fun b=> b=mb) W5 w6:=Mod.trans mA m6 (fun _ _ h=> h)
         have gsl:=hA.at_.resolve_left (by intro e;cases e)
         have rowG:Row w6 gs 4 (fl [.int .i64 (65536+(g:Int)), .int .u64 (A.spots g c).1, .int .u32 (A.spots g c).2.1, .int .u32 (A.wt g)]):=(ownsRow_row hA.own).mod m6 (by omega)
         have HG:=Lib.hid (And.intro m46 (And.intro rowG (And.intro M6 S5)))
         clear m46 rowG M6 S5 mA mA0 hA m6 nU5 mU5 hU5 PB
         have hrel:LdI A d t g0 c0 w XX xb mb x w6 (g+1) (c+1):=by
          obtain ⟨m46,rowG,M6,S5⟩:=HG.out
          obtain ⟨S4,m4,hlow4,BM4,omb4,oxb4,X4,I4,_⟩:=HC.out
          obtain ⟨h1,mm,kk,h2⟩:=HU.out
          have nm:∀ b,ow2 b= .no→b≠mb→True:=fun _ _ _=> trivial
          have hgo:ow2 gs= .no:=Classical.byContradiction fun hh=> by have:=S4.2 _ hh;omega
          have I6:=(I4.mod (ow' :=ow2) m5 (fun _ h=> h.elim) (fun _ _=> rfl)).mod (ow' :=ow2) m46 (fun b h=> .inl h) (fun _ _=> rfl)
          exact ⟨B,ow2,_,S5.mod m46 (by rintro b rfl;exact omb4),Mod.trans (Mod.trans m4 m5 (fun _ _ h=> h)) m46 (fun b hb e=> by have e' :b=mb:=e;omega),hlow4,M6,omb4,oxb4,(X4.mod m5 (fun h=> h)).mod m46 (by show ¬xb=mb;omega),(I6.up HI.out.1 (by omega) gl h1 h2 (⟨pg,by omega⟩,⟨c,c64⟩) HPG.out.symm rfl).2 gs ct rowG hgo (by omega) (by omega)⟩
         have HR2:=Lib.hid hrel
         clear hrel
         go_wp2
         exact ⟨⟨c+1,by go_num,by omega,HR2.out⟩,by (simp [RowKit.intOf] <;> omega)⟩
        ·have hl0:(lqf A d t g0 c0 g c).len=0:=by
          unfold lqf
          split
          ·rename_i h1
           cases hl:lcm_ A d t g0 g with
           |none=> rfl
           |some mk=> exact absurd ⟨h1,mk.1,mk.2,hl⟩ hup
          ·rfl
         rw [hl0,show ((0:Nat):Int)=0 from rfl]
         have hrel:LdI A d t g0 c0 w XX xb mb x W (g+1) (c+1):=by
          obtain ⟨S4,m4,hlow4,BM4,omb4,oxb4,X4,I4,_⟩:=HC.out
          have hno:c≠c0∨lcm_ A d t g0 g=none:=by
           by_cases h1:c=c0
           ·right
            cases hl:lcm_ A d t g0 g with
            |none=> rfl
            |some mk=> exact absurd ⟨h1,mk.1,mk.2,hl⟩ hup
           ·exact .inl h1
          exact ⟨B,ow2,M,S4,m4,hlow4,BM4,omb4,oxb4,X4,I4.stay HI.out.1 (.inr hno)⟩
         have HR2:=Lib.hid hrel
         clear hrel
         go_wp2
         exact ⟨⟨c+1,by go_num,by omega,HR2.out⟩,by (simp [RowKit.intOf] <;> omega)⟩
      ·obtain rfl:c=A.C:=by omega
       obtain ⟨B,ow,M,S,m,hlow,BM,omb,oxb,X,I⟩:=hL
       have HD:=Lib.hid (And.intro S (And.intro m (And.intro hlow (And.intro BM (And.intro omb (And.intro oxb (And.intro X I)))))))
       clear S m hlow BM omb oxb X I
       go_wp2
       obtain ⟨S,m,hlow,BM,omb,oxb,X,I⟩:=HD.out
       refine ⟨⟨g,by go_num,by omega,B,ow,M,lrow rfl S,m,hlow,BM,omb,oxb,X,I.rowEnd HI.out.1 rfl⟩,by (simp [RowKit.intOf] <;> omega)⟩
end
end Go.Q
