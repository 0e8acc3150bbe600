/- A part of the proof that TopGreat answers true: what some of the functions on its road compute. -/
import Derived.Lib.SlBytesConst
import Derived.Lib.AppendZeros
import Derived.Test.YtckddephdbhagaaGreatDoorQ16
import Derived.Test.YtckddephdbhagaaGreatDoorQ28
set_option linter.unusedVariables false
set_option linter.unusedSimpArgs false
namespace Go.Q
open Go.RowKit Go.Proofs
theorem xor_u32 (a b:Nat) (ha:a < 4294967296) (hb:b < 4294967296):bits .xor .u32 (a:Int) (b:Int)=((a ^^^ b:Nat):Int):=by
 have hx:a ^^^ b < 2 ^ 32:=Nat.xor_lt_two_pow (by omega) (by omega)
 have h1:(BitVec.ofInt 32 (a:Int)).toNat=a:=by
  rw [BitVec.ofInt_natCast,BitVec.toNat_ofNat];exact Nat.mod_eq_of_lt (by omega)
 have h2:(BitVec.ofInt 32 (b:Int)).toNat=b:=by
  rw [BitVec.ofInt_natCast,BitVec.toNat_ofNat];exact Nat.mod_eq_of_lt (by omega)
 show IntKind.u32.wrap ((BitVec.ofInt 32 (a:Int) ^^^ BitVec.ofInt 32 (b:Int)).toNat:Int)=_
 rw [BitVec.toNat_xor,h1,h2,IntKind.wrap_u32]
 omega
theorem and15_u32 (a:Nat) (h:a < 4294967296):bits .and .u32 (a:Int) 15=((a % 16:Nat):Int):=by
 have:=bits_mask .u32 32 (by decide) wraps_u32 4 (by decide) (a:Int) (by omega) (by omega)
 rw [show ((2:Int) ^ 4 - 1)=15 from rfl] at this
 rw [this];omega
def half (H:Nat→Nat) (a:Nat):Nat:=(a / 16) ^^^ H (a % 16)
def crcS (H:Nat→Nat) (c x:Nat):Nat:=half H (half H (c ^^^ x))
def crcR (H:Nat→Nat) (c:Nat) (l:List Nat):Nat:=l.foldl (crcS H) c
theorem half_lt {H:Nat→Nat} (hH:∀ i,i < 16→H i < 4294967296) {a:Nat} (ha:a < 4294967296):half H a < 4294967296:=
 Nat.xor_lt_two_pow (n:=32) (by omega) (hH _ (by omega))
theorem crcS_lt {H:Nat→Nat} (hH:∀ i,i < 16→H i < 4294967296) {c x:Nat} (hc:c < 4294967296) (hx:x < 256):crcS H c x < 4294967296:=
 half_lt hH (half_lt hH (Nat.xor_lt_two_pow (n:=32) (by omega) (by omega)))
theorem crcR_lt {H:Nat→Nat} (hH:∀ i,i < 16→H i < 4294967296):∀ (l:List Nat) (c:Nat),c < 4294967296→(∀ x∈l,x < 256)→crcR H c l < 4294967296
 | [],c,hc,_=> hc
 |x::l,c,hc,h=> crcR_lt hH l _ (crcS_lt hH hc (h x (List.mem_cons_self ..))) (fun y hy=> h y (List.mem_cons_of_mem _ hy))
set_option maxRecDepth 100000 in
set_option maxHeartbeats 1000000 in
theorem run_ok (H:Nat→Nat) (hH:∀ i,i < 16→H i < 4294967296) (g n cap c0:Nat) (bs:List Nat) (hbs:∀ x∈bs,x < 256) (hn:bs.length=n) (hn2:n≤16777216) (hc0:c0 < 4294967296) (w:World) (RH:Row w 1 16 (fun i=> .int .u32 (H i:Nat))) (R:Row w g n (fl (bl bs))):
  Calls Tryz.prog 274 #[.int .u32 c0,slc g n cap] w fun e w' => e= .returned (.int .u32 (crcR H c0 bs:Nat))∧w=w' :=by
 have HH:=Lib.hid (And.intro hH (And.intro hbs (And.intro hn (And.intro hn2 hc0))))
 clear hH hbs hn hn2 hc0
 go_enter Tryz.func274,Tryz.ntmps274
 go_wp2
 go_loopw [9,0] (fun s9 s0 wr=> ∃ k c:Nat,s9= .int .i64 k∧k≤n∧s0= .int .u32 c∧c=crcR H c0 (bs.take k)∧wr=w) (fun s9 _ _=> n - (RowKit.intOf s9).toNat)
 case atStart=> exact ⟨0,c0,rfl,by omega,rfl,rfl,rfl⟩
 case round=>
  obtain ⟨k,c,rfl,hk,rfl,hc,rfl⟩:=hrel
  by_cases hkn:k < n
  ·have i1:(k:Int) < n:=by omega
   have hwk:IntKind.i64.wrap ((k:Int)+1)=(k:Int)+1:=by have:=HH.out.2.2.2.1;rw [IntKind.wrap_i64];omega
   obtain ⟨x,hx⟩:∃ x,x=bs[k]'(by have:=HH.out.2.2.1;omega):=⟨_,rfl⟩
   have hkl:k < bs.length:=by have:=HH.out.2.2.1;omega
   have hx256:x < 256:=by rw [hx];exact HH.out.2.1 _ (List.getElem_mem _)
   have d0:wr.cell? ⟨g,k,none⟩=some (.int .u8 x):=by
    rw [R.cell hkn,hx]
    unfold fl bl
    rw [List.getD_eq_getElem?_getD,List.getElem?_map,List.getElem?_eq_getElem hkl]
    rfl
   have hc32:c < 4294967296:=by rw [hc];exact crcR_lt HH.out.1 _ _ HH.out.2.2.2.2 (fun y hy=> HH.out.2.1 y (List.mem_of_mem_take hy))
   have hwx:IntKind.u32.wrap (x:Int)=x:=by rw [IntKind.wrap_u32];omega
   obtain ⟨a,ha⟩:∃ a,a=c ^^^ x:=⟨_,rfl⟩
   have ha32:a < 4294967296:=by rw [ha];exact Nat.xor_lt_two_pow (n:=32) (by omega) (by omega)
   have x1:bits .xor .u32 (c:Int) (x:Int)=a:=by rw [ha];exact xor_u32 c x hc32 (by omega)
   obtain ⟨i,hi⟩:∃ i,i=a % 16:=⟨_,rfl⟩
   have hi16:i < 16:=by omega
   have n1:bits .and .u32 (a:Int) 15=i:=by rw [hi];exact and15_u32 a ha32
   obtain ⟨a4,ha4⟩:∃ a4,a4=a / 16:=⟨_,rfl⟩
   have s1:(a:Int) / 16=a4:=by omega
   obtain ⟨h1,hh1⟩:∃ h1,h1=H i:=⟨_,rfl⟩
   have e1:wr.cell? ⟨1,i,none⟩=some (.int .u32 h1):=by rw [RH.cell hi16,hh1]
   have hh1' :h1 < 4294967296:=by rw [hh1];exact HH.out.1 i hi16
   obtain ⟨b,hb⟩:∃ b,b=half H a:=⟨_,rfl⟩
   have hb' :b=a4 ^^^ h1:=by rw [hb,half,ha4,hh1,hi]
   have hb32:b < 4294967296:=by rw [hb];exact half_lt HH.out.1 ha32
   have x2:bits .xor .u32 (a4:Int) (h1:Int)=b:=by rw [hb'];exact xor_u32 a4 h1 (by omega) hh1'
   obtain ⟨j,hj⟩:∃ j,j=b % 16:=⟨_,rfl⟩
   have hj16:j < 16:=by omega
   have n2:bits .and .u32 (b:Int) 15=j:=by rw [hj];exact and15_u32 b hb32
   obtain ⟨b4,hb4⟩:∃ b4,b4=b / 16:=⟨_,rfl⟩
   have s2:(b:Int) / 16=b4:=by omega
   obtain ⟨h2,hh2⟩:∃ h2,h2=H j:=⟨_,rfl⟩
   have e2:wr.cell? ⟨1,j,none⟩=some (.int .u32 h2):=by rw [RH.cell hj16,hh2]
   have hh2' :h2 < 4294967296:=by rw [hh2];exact HH.out.1 j hj16
   obtain ⟨q,hq⟩:∃ q,q=half H b:=⟨_,rfl⟩
   have hq' :q=b4 ^^^ h2:=by rw [hq,half,hb4,hh2,hj]
   have x3:bits .xor .u32 (b4:Int) (h2:Int)=q:=by rw [hq'];exact xor_u32 b4 h2 (by omega) hh2'
   have hqf:q=crcR H c0 (bs.take (k+1)):=by
    rw [List.take_succ_eq_append_getElem hkl,crcR,List.foldl_append,List.foldl_cons,List.foldl_nil]
    have:List.foldl (crcS H) c0 (bs.take k)=c:=hc.symm
    rw [this,←hx,crcS,←ha,←hb,hq]
   have HQ:=Lib.hid hqf
   have j1:(i:Int) < 16:=by omega
   have j2:(j:Int) < 16:=by omega
   have lh:=RH.lt
   clear hc hx hx256 hc32 ha ha32 hi hi16 ha4 hh1 hh1' hb hb' hb32 hj hj16 hb4 hh2 hh2' hq hq' hqf hkl
   go_wp2
   refine ⟨⟨k+1,q,by go_num,by omega,rfl,HQ.out,trivial⟩,by simp only [RowKit.intOf];omega⟩
  ·obtain rfl:k=n:=by omega
   have i1:(k:Int)≤k:=by omega
   have HC:=Lib.hid hc
   clear hc
   go_wp2
   go_ret
   refine ⟨?_,rfl⟩
   rw [HC.out,List.take_of_length_le (by have:=HH.out.2.2.1;omega)]
   rfl
def crcV (H:Nat→Nat) (l:List Nat):Nat:=4294967295 ^^^ crcR H 4294967295 l
theorem crcV_lt {H:Nat→Nat} (hH:∀ i,i < 16→H i < 4294967296) (l:List Nat) (h:∀ x∈l,x < 256):crcV H l < 4294967296:=
 Nat.xor_lt_two_pow (n:=32) (by omega) (crcR_lt hH l _ (by omega) h)
set_option maxRecDepth 100000 in
theorem update_ok (H:Nat→Nat) (hH:∀ i,i < 16→H i < 4294967296) (g n cap:Nat) (bs:List Nat) (hbs:∀ x∈bs,x < 256) (hn:bs.length=n) (hn2:n≤16777216) (w:World) (RH:Row w 1 16 (fun i=> .int .u32 (H i:Nat))) (R:Row w g n (fl (bl bs))):
  Calls Tryz.prog 237 #[.int .u32 0,slc g n cap] w fun e w' => e= .returned (.int .u32 (crcV H bs:Nat))∧w=w' :=by
 have u1:bits .xor .u32 IntKind.u32.max 0=4294967295:=by decide
 have u2:bits .xor .u32 IntKind.u32.max ((crcR H 4294967295 bs:Nat):Int)=((crcV H bs:Nat):Int):=xor_u32 4294967295 _ (by omega) (crcR_lt hH bs _ (by omega) hbs)
 have HH:=Lib.hid (And.intro hH (And.intro hbs (And.intro hn hn2)))
 clear hH hbs hn hn2
 go_enter Tryz.func237,Tryz.ntmps237
 go_wp2_with fail
 refine (run_ok H HH.out.1 g n cap 4294967295 bs HH.out.2.1 HH.out.2.2.1 HH.out.2.2.2 (by omega) _ RH R).mono ?_;rintro e w1 ⟨rfl,rfl⟩
 go_wp2
 go_ret
 exact ⟨rfl,rfl⟩
set_option maxRecDepth 100000 in
theorem sum_ok (H:Nat→Nat) (hH:∀ i,i < 16→H i < 4294967296) (g n cap:Nat) (bs:List Nat) (hbs:∀ x∈bs,x < 256) (hn:bs.length=n) (hn2:n≤16777216) (w:World) (RH:Row w 1 16 (fun i=> .int .u32 (H i:Nat))) (R:Row w g n (fl (bl bs))):
  Calls Tryz.prog 178 #[slc g n cap] w fun e w' => e= .returned (.int .u32 (crcV H bs:Nat))∧w=w' :=by
 go_enter Tryz.func178,Tryz.ntmps178
 go_wp2_with fail
 refine (update_ok H hH g n cap bs hbs hn hn2 _ RH R).mono ?_;rintro e w1 ⟨rfl,rfl⟩
 go_wp2
 go_ret
 exact ⟨rfl,rfl⟩
def tail4 (c:Nat):List Nat:= [c % 256,c / 256 % 256,c / 65536 % 256,c / 16777216 % 256]
set_option maxRecDepth 100000 in
set_option maxHeartbeats 1000000 in
theorem seal_ok (H:Nat→Nat) (hH:∀ i,i < 16→H i < 4294967296) (g n cap:Nat) (bs:List Nat) (hbs:∀ x∈bs,x < 256) (hn:bs.length=n) (hn0:0 < n) (hn2:n≤1000000) (w:World) (RH:Row w 1 16 (fun i=> .int .u32 (H i:Nat))) (R:Row w g n (fl (bl bs))):
  Calls Tryz.prog 94 #[slc g n cap] w fun e w' => ∃ v m,e= .returned (.tuple #[v, .int .i64 0])∧w'.ownsRow w.heap.size 5 1 v m (bl (bs++tail4 (crcV H bs)))∧Mod No w w' :=by
 have hc:=crcV_lt hH bs hbs
 obtain ⟨c,hcc⟩:∃ c,c=crcV H bs:=⟨_,rfl⟩
 rw [←hcc] at hc ⊢
 have w1:IntKind.u8.wrap (c:Int)=(c:Int) % 256:=IntKind.wrap_u8 _
 have w2:IntKind.u8.wrap ((c:Int) / 256)=((c:Int) / 256) % 256:=IntKind.wrap_u8 _
 have w3:IntKind.u8.wrap ((c:Int) / 65536)=((c:Int) / 65536) % 256:=IntKind.wrap_u8 _
 have w4:IntKind.u8.wrap ((c:Int) / 16777216)=((c:Int) / 16777216) % 256:=IntKind.wrap_u8 _
 have i1:(n:Int)≤16777216:=by omega
 have i2:IntKind.i64.wrap ((n:Int)+4)=((n+4:Nat):Int):=by rw [IntKind.wrap_i64];omega
 have HH:=Lib.hid (And.intro hH (And.intro hbs (And.intro hn (And.intro hn0 (And.intro hn2 (And.intro hc hcc))))))
 clear hH hbs hn hn0 hn2 hc hcc
 go_enter Tryz.func94,Tryz.ntmps94
 go_wp2_with fail
 refine (sum_ok H HH.out.1 g n cap bs HH.out.2.1 HH.out.2.2.1 (by have:=HH.out.2.2.2.2.1;omega) _ RH R).mono ?_;rintro e w1 ⟨rfl,rfl⟩
 rw [←HH.out.2.2.2.2.2.2]
 obtain ⟨i0,hi,hz0,hz1,hz2⟩:=info_parts Tryz.infoU8
 obtain ⟨w2,hmk,hO,hgr⟩:=run_make_own (P:=Tryz.prog) w w.heap.size 32 5 i0 _ 1 Tryz.underlying32 hi hz0 hz1 .i64 .i64 (n+4) (by rw [hz2];have:=HH.out.2.2.2.2.1;omega) (by have:=HH.out.2.2.2.2.1;simp only [maxLen];omega) (Nat.le_refl _)
 have m2:Mod No w w2:=(Mod.refl No w).grown hgr (fun k h=> by simp at h)
 have R2:Row w2 g (n * 1) (fl (bl bs)):=by rw [Nat.mul_one];exact R.mod m2 (fun h=> h)
 have hmk' :(Instr.makeSlice 32 (.int .i64 0) (.int .i64 ((n:Int)+4))).run Tryz.prog w= .ok (.slice (some ⟨w.heap.size,0,none⟩) 0 (n+4)) w2:=hmk
 have hl:(bl bs).length=n * 1:=by rw [bl_len,Nat.mul_one];exact HH.out.2.2.1
 have lz2:=m2.size
 clear hmk
 go_upto_region 5 with (at_builtin;go_must (refine wpList_app_m 5 _ 1 1 Tryz.infoU8 rfl _ _ 32 rfl Tryz.underlying32 rfl (by decide) (by decide) n (bl bs) hl (bl_one _) w.heap.size (.slice (some ⟨w.heap.size,0,none⟩) 0 (n+4)) 0 [] _ _ rfl rfl HH.out.2.2.2.1 ?_ ?_ ?_ ?_ ?_);go_must (· exact lz2);go_must (· (have:=HH.out.2.2.2.2.1;omega));go_must (· exact hO);go_must (· exact R2);go_must (intro gt ct wA hA))
 have hOA:=hA.own
 have lzA:=hA.mod.size
 simp only [Nat.zero_add,List.nil_append] at hOA
 have h4:∀ u∈ [Value.int .u8 ((c:Int) % 256), .int .u8 ((c:Int) / 256 % 256), .int .u8 ((c:Int) / 65536 % 256), .int .u8 ((c:Int) / 16777216 % 256)],u.oneCell' =true:=by simp [Value.oneCell']
 have e4: [Value.int .u8 ((c:Int) % 256), .int .u8 ((c:Int) / 256 % 256), .int .u8 ((c:Int) / 65536 % 256), .int .u8 ((c:Int) / 16777216 % 256)]=bl (tail4 c):=by simp [bl,tail4]
 have H4:=Lib.hid e4
 clear e4 hO
 go_wp2_with (at_builtin;go_must (refine wpList_app_m 5 _ 1 1 Tryz.infoU8 rfl _ _ 32 rfl Tryz.underlying32 rfl (by decide) (by decide) 4 [Value.int .u8 ((c:Int) % 256), .int .u8 ((c:Int) / 256 % 256), .int .u8 ((c:Int) / 65536 % 256), .int .u8 ((c:Int) / 16777216 % 256)] rfl h4 w.heap.size (.slice (some ⟨gt,0,none⟩) n ct) n (bl bs) _ _ rfl rfl (by decide) ?_ ?_ ?_ ?_ ?_);go_must (· (simp;omega));go_must (· (have:=HH.out.2.2.2.2.1;omega));go_must (· (repeat first|(with_reducible exact hOA)|(with_reducible refine World.ownsRow.drew ?_)|(with_reducible refine World.ownsRow.alloc ?_ _)));go_must (· exact row_newL wA [_,_,_,_] _);go_must (intro gt2 ct2 wB hB))
 go_ret2
 refine ⟨.slice (some ⟨gt2,0,none⟩) (n+4) ct2,n+4,rfl, ?_, ?_⟩
 ·have hOB:=hB.own
  rw [H4.out,←bl_append] at hOB
  exact hOB
 ·refine Mod.trans m2 (Mod.trans hA.mod (Mod.trans ((Mod.refl (fun b=> (Value.slice (some ⟨gt,0,none⟩) n ct).ownBlock=some b) wA).alloc _) hB.mod (fun _ _ h=> h)) (fun b hb h=> ?_)) (fun b hb h=> ?_)
  ·obtain rfl:gt=b:=Option.some.inj h
   rcases hA.at_ with h2|h2
   ·exact h2
   ·omega
  ·obtain rfl:w.heap.size=b:=Option.some.inj h
   omega
theorem or_u32 (y x:Nat) (i:Nat) (hi:y < 2 ^ i) (hx:x % 2 ^ i=0) (hx1:x < 4294967296) (hy1:y < 4294967296):bits .or .u32 (y:Int) (x:Int)=((y+x:Nat):Int):=by
 rw [bits_join_low .u32 32 (by decide) wraps_u32 i (y:Int) (x:Int) (by omega) (by exact_mod_cast hi) (by omega) (by omega) (by exact_mod_cast congrArg (fun n:Nat=> (n:Int)) hx) (by omega)]
 omega
set_option maxRecDepth 100000 in
set_option maxHeartbeats 1000000 in
theorem sealed_ok (H:Nat→Nat) (hH:∀ i,i < 16→H i < 4294967296) (g n N cap:Nat) (hN:N=n+4) (bs:List Nat) (hbs:∀ x∈bs,x < 256) (hn:bs.length=n) (hn2:n≤1000000) (hcap:n≤cap) (w:World) (RH:Row w 1 16 (fun i=> .int .u32 (H i:Nat))) (R:Row w g N (fl (bl (bs++tail4 (crcV H bs))))):
  Calls Tryz.prog 180 #[slc g N cap] w fun e w' => e= .returned (.bool true)∧∃ m,w' =w.drewN m:=by
 have hc:=crcV_lt hH bs hbs
 obtain ⟨c,hcc⟩:∃ c,c=crcV H bs:=⟨_,rfl⟩
 rw [←hcc] at hc R
 have hR4:∀ j,j < 4→w.cell? ⟨g,n+j,none⟩=some (.int .u8 (((tail4 c).getD j 0:Nat):Int)):=by
  intro j hj
  rw [R.cell (by omega)]
  unfold fl
  rw [bl_append,List.getD_eq_getElem?_getD,List.getElem?_append_right (by rw [bl_len];omega),bl_len,show n+j - bs.length=j from by omega]
  rcases (by omega:j=0∨j=1∨j=2∨j=3) with rfl|rfl|rfl|rfl <;> rfl
 have t0:w.cell? ⟨g,n,none⟩=some (.int .u8 ((c:Int) % 256)):=by have:=hR4 0 (by omega);rw [Nat.add_zero] at this;rw [this];simp [tail4]
 have t1:w.cell? ⟨g,n+1,none⟩=some (.int .u8 ((c:Int) / 256 % 256)):=by rw [hR4 1 (by omega)];simp [tail4]
 have t2:w.cell? ⟨g,n+2,none⟩=some (.int .u8 ((c:Int) / 65536 % 256)):=by rw [hR4 2 (by omega)];simp [tail4]
 have t3:w.cell? ⟨g,n+3,none⟩=some (.int .u8 ((c:Int) / 16777216 % 256)):=by rw [hR4 3 (by omega)];simp [tail4]
 have RB:Row w g n (fl (bl bs)):=by
  refine (R.take (M:=n) (by omega)).congr (fun i hi=> ?_)
  unfold fl
  rw [bl_append,List.getD_eq_getElem?_getD,List.getElem?_append_left (by rw [bl_len];omega),List.getD_eq_getElem?_getD]
 have i1:(n:Int)≤1000000:=by omega
 have i2:(n:Int)≤cap:=by omega
 have k0:(n:Int) < (N:Int):=by omega
 have k1:(n:Int)+1 < (N:Int):=by omega
 have k2:(n:Int)+2 < (N:Int):=by omega
 have k3:(n:Int)+3 < (N:Int):=by omega
 have v1:IntKind.i64.wrap ((n:Int)+1)=(n:Int)+1:=by rw [IntKind.wrap_i64];omega
 have u1:((n:Int)+1).toNat=n+1:=by omega
 have v2:IntKind.i64.wrap ((n:Int)+2)=(n:Int)+2:=by rw [IntKind.wrap_i64];omega
 have u2:((n:Int)+2).toNat=n+2:=by omega
 have v3:IntKind.i64.wrap ((n:Int)+3)=(n:Int)+3:=by rw [IntKind.wrap_i64];omega
 have u3:((n:Int)+3).toNat=n+3:=by omega
 have s0:(N:Int) - 4=n:=by omega
 have k4:(0:Int)≤(n:Int)+1:=by omega
 have k5:(0:Int)≤(n:Int)+2:=by omega
 have k6:(0:Int)≤(n:Int)+3:=by omega
 have k7:(0:Int)≤(n:Int):=by omega
 have a0:IntKind.u32.wrap ((c:Int) % 256)=(c:Int) % 256:=by rw [IntKind.wrap_u32];omega
 have a1:IntKind.u32.wrap ((c:Int) / 256 % 256)=(c:Int) / 256 % 256:=by rw [IntKind.wrap_u32];omega
 have a2:IntKind.u32.wrap ((c:Int) / 65536 % 256)=(c:Int) / 65536 % 256:=by rw [IntKind.wrap_u32];omega
 have a3:IntKind.u32.wrap ((c:Int) / 16777216 % 256)=(c:Int) / 16777216 % 256:=by rw [IntKind.wrap_u32];omega
 have b1:IntKind.u32.wrap ((c:Int) / 256 % 256 * 256)=(c:Int) / 256 % 256 * 256:=by rw [IntKind.wrap_u32];omega
 have b2:IntKind.u32.wrap ((c:Int) / 65536 % 256 * 65536)=(c:Int) / 65536 % 256 * 65536:=by rw [IntKind.wrap_u32];omega
 have b3:IntKind.u32.wrap ((c:Int) / 16777216 % 256 * 16777216)=(c:Int) / 16777216 % 256 * 16777216:=by rw [IntKind.wrap_u32];omega
 have o1:bits .or .u32 ((c:Int) % 256) ((c:Int) / 256 % 256 * 256)=(c:Int) % 65536:=by
  have:=or_u32 (c % 256) (c / 256 % 256 * 256) 8 (by omega) (by omega) (by omega) (by omega)
  rw [show ((c % 256:Nat):Int)=(c:Int) % 256 from by omega,show ((c / 256 % 256 * 256:Nat):Int)=(c:Int) / 256 % 256 * 256 from by omega] at this
  rw [this];omega
 have o2:bits .or .u32 ((c:Int) % 65536) ((c:Int) / 65536 % 256 * 65536)=(c:Int) % 16777216:=by
  have:=or_u32 (c % 65536) (c / 65536 % 256 * 65536) 16 (by omega) (by omega) (by omega) (by omega)
  rw [show ((c % 65536:Nat):Int)=(c:Int) % 65536 from by omega,show ((c / 65536 % 256 * 65536:Nat):Int)=(c:Int) / 65536 % 256 * 65536 from by omega] at this
  rw [this];omega
 have o3:bits .or .u32 ((c:Int) % 16777216) ((c:Int) / 16777216 % 256 * 16777216)=(c:Int):=by
  have:=or_u32 (c % 16777216) (c / 16777216 % 256 * 16777216) 24 (by omega) (by omega) (by omega) (by omega)
  rw [show ((c % 16777216:Nat):Int)=(c:Int) % 16777216 from by omega,show ((c / 16777216 % 256 * 16777216:Nat):Int)=(c:Int) / 16777216 % 256 * 16777216 from by omega] at this
  rw [this];omega
 have HH:=Lib.hid (And.intro hH (And.intro hbs (And.intro hn (And.intro hn2 (And.intro hc hcc)))))
 have HN:=Lib.hid hN
 clear hH hbs hn hn2 hc hcc hR4 hN
 go_enter Tryz.func180,Tryz.ntmps180
 go_upto_region 4 with fail
 refine wp_region_chain (fun w' => w'.cell? ⟨g,n,none⟩=some (.int .u8 ((c:Int) % 256))∧w'.cell? ⟨g,n+1,none⟩=some (.int .u8 ((c:Int) / 256 % 256))∧w'.cell? ⟨g,n+2,none⟩=some (.int .u8 ((c:Int) / 65536 % 256))∧w'.cell? ⟨g,n+3,none⟩=some (.int .u8 ((c:Int) / 16777216 % 256))) [3] [33,34] [] (rds [0,1,2,4,5,6,7,8,9,10,11,12,13,14,15,16,17,18,19,20,21,22,23,24,25,26,27,28,29,30,31,32] (.ef 3 (rds [33,34] .nil))) (by kernel_rfl) (by kernel_rfl) ⟨t0,t1,t2,t3⟩ (fun ops hO=> ?_)
 have HO:=Lib.hid hO
 clear hO
 simp only [rds]
 (repeat (first|(refine lxp HO (v:=?_) (fun w'=> ?_) ?_;rotate_left;(focus (go_simp;(try exact rfl);done));try go_simp)|(refine lxr HO (v:=?_) (fun w' hC'=> ?_) ?_;rotate_left;(focus (obtain ⟨c0,c1,c2,c3⟩:=hC';go_simp;(try exact rfl);done));try go_simp)|(refine lxo HO ?_;try go_simp)))
 refine lxe HO (fun Kx hKx=> ?_)
 go_simp
 refine (sum_ok H HH.out.1 g n cap bs HH.out.2.1 HH.out.2.2.1 (by have:=HH.out.2.2.2.1;omega) _ RH.drew RB.drew).mono ?_;rintro e w1 ⟨rfl,rfl⟩
 rw [←HH.out.2.2.2.2.2]
 refine hKx _ _ (.inr ⟨t0,t1,t2,t3⟩) ?_
 clear hKx Kx
 (repeat (first|(refine lxp HO (v:=?_) (fun w'=> ?_) ?_;rotate_left;(focus (go_simp;(try exact rfl);done));try go_simp)|(refine lxr HO (v:=?_) (fun w' hC'=> ?_) ?_;rotate_left;(focus (obtain ⟨c0,c1,c2,c3⟩:=hC';go_simp;(try exact rfl);done));try go_simp)|(refine lxo HO ?_;try go_simp)))
 refine wpL_nil ?_
 go_wp2
 go_ret
 exact ⟨rfl,1,rfl⟩
end Go.Q
namespace Go.Q
open Go.RowKit Go.Proofs
theorem own_new (w:World) (base:Nat) (cs:List Value) (e:TypeId) (n:Nat) (hn:cs.length=n) (hB:base≤w.heap.size) (hm:n≤1000):(w.alloc (.cells cs.toArray e)).ownsRow base e 1 (.slice (some ⟨w.heap.size,0,none⟩) n n) n cs:=
 ⟨by omega, .inr ⟨w.heap.size,n,cs.toArray,rfl,hB,heap_alloc_new w _,Nat.le_refl _,by simp only [maxLen];omega,by simp;omega,by rw [Nat.mul_one,List.take_of_length_le];simp;omega⟩⟩
theorem snum_mem {A:ASt} {x:Nat}:∀ {a k:Nat},x∈snum A a k→∃ g c,a≤g∧g < a+k∧c < A.C∧x∈snumF A g c:=by
 intro a k h
 unfold snum at h
 obtain ⟨g,hg,h⟩:=List.mem_flatMap.1 h
 unfold srow at h
 obtain ⟨c,hc,h⟩:=List.mem_flatMap.1 h
 simp only [List.mem_range'_1] at hg hc
 exact ⟨g,c,hg.1,hg.2,by omega,h⟩
theorem nums_lt (nx:Nat) (A:ASt) (R:Rg A) (hnx:nx≤4611686018427387904):∀ x∈nums nx A,x < 18446744073709551616:=by
 intro x hx
 have hC:=R.C2
 have hG:=R.G2
 have hG1:=R.G1
 have hcr:=R.cr
 simp only [nums,List.mem_append,List.mem_cons,List.not_mem_nil,or_false] at hx
 rcases hx with ((((((rfl|h)|h)|h)|h)|h)|h)
 ·omega
 ·omega
 ·unfold gnum at h
  obtain ⟨g,hg,h⟩:=List.mem_flatMap.1 h
  simp only [List.mem_range'_1] at hg
  have:=R.gr g (by omega)
  simp only [gnumF,List.mem_cons,List.not_mem_nil,or_false] at h
  rcases h with rfl|rfl <;> omega
 ·unfold inum at h
  obtain ⟨c,hc,rfl⟩:=List.mem_map.1 h
  simp only [List.mem_range'_1] at hc
  have:=R.cl c (by omega)
  omega
 ·unfold inum at h
  obtain ⟨c,hc,rfl⟩:=List.mem_map.1 h
  simp only [List.mem_range'_1] at hc
  have:=R.cu c (by omega)
  omega
 ·cases hA:A.task with
  |none=> rw [hA] at h;simp [tnum] at h;omega
  |some t=>
   have:=R.tk t hA
   rw [hA] at h
   simp only [tnum,List.mem_cons,List.not_mem_nil,or_false] at h
   rcases h with rfl|rfl|rfl|rfl|rfl|rfl|rfl|rfl|rfl <;> first|omega|(split <;> omega)
 ·obtain ⟨g,c,h1,h2,h3,h4⟩:=snum_mem h
  have:=R.sp g c (by omega) h3
  unfold snumF at h4
  split at h4
  ·simp only [List.mem_cons,List.not_mem_nil,or_false] at h4;omega
  ·simp only [List.mem_cons,List.not_mem_nil,or_false] at h4
   rcases h4 with rfl|rfl|rfl <;> omega
theorem nums_len (nx:Nat) (A:ASt) (R:Rg A):(nums nx A).length≤60000:=by
 have hC:=R.C2
 have hG:=R.G2
 have hG1:=R.G1
 simp only [nums,List.length_append,gnum_len,inum_len,tnum_len,snum_len0 A _ (show 0 < A.G by omega),List.length_cons,List.length_nil]
 have:(A.G - 1) * (3 * A.C)≤255 * 192:=Nat.mul_le_mul (by omega) (by omega)
 split <;> omega
def body (nx:Nat) (A:ASt):List Nat:= [113,115,1]++vbs (nums nx A)
theorem body_byte (nx:Nat) (A:ASt):∀ x∈body nx A,x < 256:=by
 intro x hx
 simp only [body,List.mem_append,List.mem_cons,List.not_mem_nil,or_false] at hx
 rcases hx with (rfl|rfl|rfl)|h
 ·omega
 ·omega
 ·omega
 ·exact vbs_byte _ x h
theorem body_len (nx:Nat) (A:ASt) (R:Rg A) (hnx:nx≤4611686018427387904):(body nx A).length≤600003:=by
 have h1:=vbs_le _ (nums_lt nx A R hnx)
 have h2:=nums_len nx A R
 simp only [body,List.length_append,List.length_cons,List.length_nil]
 omega
set_option maxRecDepth 100000 in
set_option maxHeartbeats 1000000 in
theorem write_ok (H:Nat→Nat) (hH:∀ i,i < 16→H i < 4294967296) (w:World) (ow:Nat→SOwn) (B:STB) (A:ASt) (nx:Nat) (R:Rg A) (hgc:A.G≤B.gcap) (hnx:nx≤4611686018427387904) (hrd:∀ t,A.task=some t→t.ready=true) (h:StAt w ow B A)
  (RH:Row w 1 16 (fun i=> .int .u32 (H i:Nat)))
  (hCk:∀ W,StAt W ow B A→Calls Tryz.prog 98 #[snv nx B A] W fun e W' => e= .returned (.int .i64 0)∧Below W.heap.size W W'):
  Calls Tryz.prog 28 #[snv nx B A] w fun e w' => ∃ g cap,e= .returned (.tuple #[slc g ((body nx A).length+4) cap, .int .i64 0])∧Row w' g ((body nx A).length+4) (fl (bl (body nx A++tail4 (crcV H (body nx A)))))∧(body nx A).length+4≤cap∧w.heap.size≤g∧Mod No w w' :=by
 have HL:=Lib.hid (And.intro (nums_lt nx A R hnx) (And.intro (nums_len nx A R) (And.intro (body_byte nx A) (body_len nx A R hnx))))
 have HH:=Lib.hid (And.intro R (And.intro hgc (And.intro hnx (And.intro hrd (And.intro h (And.intro hCk hH))))))
 clear R hgc hnx hrd h hCk hH
 go_enter Tryz.func28,Tryz.ntmps28
 go_wp2_with fail
 have m0:Mod No w _:=(Mod.refl No w).alloc (.cells #[.int .i64 nx, .int .i64 A.C, .int .u64 A.cr,slc B.gb A.G B.gcap,slc B.cl A.C B.ccap,slc B.cu A.C B.ucap,B.tv,slc B.so A.G B.scap] 50)
 refine (c_numbers _ ow B A nx HH.out.1 HH.out.2.1 HH.out.2.2.1 HH.out.2.2.2.1 (HH.out.2.2.2.2.1.no m0) HH.out.2.2.2.2.2.1).mono ?_;rintro e w1 ⟨v,rfl,⟨ng,nc,rfl,NR⟩,m1⟩
 have mw1:Mod No w w1:=Mod.trans m0 m1 (fun _ _ h=> h)
 have lz1:=mw1.size
 have hcv:=Lib.run_convert_bytes_const (P:=Tryz.prog) w1 32 5 #[.int .u8 113, .int .u8 115, .int .u8 1] 3 3 Tryz.underlying32 Tryz.underlying5
 go_wp2_with fail
 refine (writeAll_ok ng nc (nums nx A) HL.out.1 HL.out.2.1 _ (NR.alloc _)).mono ?_;rintro e w2 ⟨v2,n2,rfl,hO2,m2⟩
 have hl2:(bl (vbs (nums nx A))).length=n2 * 1:=hO2.1
 have hl2' :=hl2
 rw [bl_len,Nat.mul_one] at hl2'
 have hv0:0 < n2:=by
  have:=vbs_ge (nums nx A)
  have h1:0 < (nums nx A).length:=by simp [nums]
  omega
 have hblen:(body nx A).length=3+n2:=by simp only [body,List.length_append,hl2',List.length_cons,List.length_nil]
 obtain ⟨g2,cp2,rfl,hg2,hg2'⟩:=own_pos hO2 hv0
 have RH3:∀ j v, [Value.int .u8 113, .int .u8 115, .int .u8 1][j]? =some v→w2.cell? ((⟨w1.heap.size,0,none⟩:Addr).add j)=some v:=by
  intro j v hj
  have hj3:j < 3:=by have:=(List.getElem?_eq_some_iff.1 hj).1;simpa using this
  have hb:=m2.heap (heap_alloc_new w1 _) (fun h=> h)
  rw [Addr.add_lit,Nat.zero_add]
  simp only [World.cell?,hb]
  rcases (by omega:j=0∨j=1∨j=2) with rfl|rfl|rfl <;> exact hj
 have mw2:Mod No w w2:=Mod.trans mw1 (Mod.trans ((Mod.refl No w1).alloc _) m2 (fun _ _ h=> h)) (fun _ _ h=> h)
 have lz2:=mw2.size
 obtain ⟨i0,hi,hz0,hz1,hz2⟩:=info_parts Tryz.infoU8
 have hnc:=nextslicecap_le (need:=3+n2) (old:=3) (by omega)
 have hrun:=run_append_grow (P:=Tryz.prog) (w:=w2) 32 32 5 i0 _ Tryz.underlying32 hi hz0 ⟨w1.heap.size,0,none⟩ 3 3 [.int .u8 113, .int .u8 115, .int .u8 1] (by rw [hz1];rfl) RH3 ⟨g2,0,none⟩ n2 cp2 (bl (vbs (nums nx A))) (by rw [hz1];exact hl2) (news_rowM (own_row1 hO2) (by omega)) (by omega) (by have:=HL.out.2.2.2;omega) (by rw [hz2];have:=HL.out.2.2.2;omega)
 have HN:=Lib.hid (And.intro hl2 (And.intro hv0 hblen))
 have HR:=Lib.hid hrun
 clear hl2 hl2' hv0 hblen hrun hcv hnc
 go_wp2_with (at_builtin;refine Lib.wpList_append_run _ rfl _ _ _ _ rfl _ _ rfl rfl _ _ HR.out ?_)
 refine (seal_ok H HH.out.2.2.2.2.2.2 w2.heap.size (3+n2) _ (body nx A) HL.out.2.2.1 HN.out.2.2 (by omega) (by have:=HL.out.2.2.2;have:=HN.out.2.2;omega) _ ?RH ?RB).mono ?_
 case RH=> exact ((RH.mod mw2 (fun h=> h)).alloc _).drew
 case RB=>
  refine Row.drew (Row.new w2 _ _ (by simp;have:=HN.out.1;omega) (fun i hi=> ?_))
  rw [Array.getElem?_append_left (by simp;have:=HN.out.1;omega)]
  have e:(Value.int .u8 113::Value.int .u8 115::Value.int .u8 1::bl (vbs (nums nx A)))=bl (body nx A):=by simp [body,bl]
  have e2:(bl (body nx A)).length=3+n2:=by rw [bl_len];exact HN.out.2.2
  rw [e,List.getElem?_toArray,List.getElem?_eq_getElem (by omega)]
  simp only [fl,List.getD_eq_getElem?_getD,List.getElem?_eq_getElem (show i < (bl (body nx A)).length by omega),Option.getD_some]
 rintro e w3 ⟨v,m,rfl,hO3,m3⟩
 have hl3:(bl (body nx A++tail4 (crcV H (body nx A)))).length=m * 1:=hO3.1
 obtain ⟨g3,cp3,rfl,hg3,hg3'⟩:=own_pos hO3 (by rw [bl_len,List.length_append] at hl3;have:=HN.out.2.2;omega)
 have hm3:m=(body nx A).length+4:=by rw [bl_len,List.length_append,Nat.mul_one] at hl3;simp only [tail4,List.length_cons,List.length_nil] at hl3;omega
 have mw3:Mod No w w3:=Mod.trans mw2 (Mod.trans ((Mod.refl No w2).alloc _).drew m3 (fun _ _ h=> h)) (fun _ _ h=> h)
 have HM:=Lib.hid hm3
 clear hm3 hl3
 go_wp2
 go_ret2
 refine ⟨g3,cp3,by rw [←HM.out];rfl, ?_, ?_, ?_,mw3⟩
 ·have:=own_row1 hO3
  rw [Nat.mul_one,HM.out] at this
  exact this
 ·rw [←HM.out];exact own_cap hO3
 ·simp at hg3;omega
end Go.Q
namespace Go.Q
open Go.RowKit Go.Proofs
theorem Tryz.infoSec:(Tryz.prog.info? 385).map (fun i=> (i.zero,i.size,i.bytes))=some (some (.agg #[.string ⟨#[]⟩, .int .i64 0, .int .i64 0]),3,32):=by kernel_rfl
def secs (l:List (ByteArray×Int×Int)):List Value:=l.flatMap fun s=> [.string s.1, .int .i64 s.2.1, .int .i64 s.2.2]
theorem secs_len (l:List (ByteArray×Int×Int)):(secs l).length=l.length * 3:=by
 induction l with
 |nil=> rfl
 |cons a l ih=> simp only [secs,List.flatMap_cons,List.length_append,List.length_cons,List.length_nil] at *;omega
theorem secs_snoc (l:List (ByteArray×Int×Int)) (s:ByteArray×Int×Int):secs (l++ [s])=secs l++ [.string s.1, .int .i64 s.2.1, .int .i64 s.2.2]:=by simp [secs]
theorem secs_last (l:List (ByteArray×Int×Int)) (h:0 < l.length):∃ x:Int,fl (secs l) ((l.length - 1) * 3+2)= .int .i64 x:=by
 obtain ⟨l',s,rfl⟩:∃ l' s,l=l' ++ [s]:=⟨l.dropLast,l.getLast (by intro h2;rw [h2] at h;simp at h),(List.dropLast_concat_getLast _).symm⟩
 refine ⟨s.2.2, ?_⟩
 unfold fl
 rw [secs_snoc,List.getD_eq_getElem?_getD,List.getElem?_append_right (by rw [secs_len];simp)]
 rw [secs_len]
 simp
def offs (ns:List Nat) (k:Nat):Nat:=3+(vbs (ns.take k)).length
theorem offs_succ (ns:List Nat) (k:Nat) (hk:k < ns.length):offs ns (k+1)=offs ns k+(vb ns[k]).length:=by
 unfold offs
 rw [vbs_take ns k hk,List.length_append];omega
theorem offs_all (ns:List Nat):offs ns ns.length=([113,115,1]++vbs ns).length:=by
 unfold offs
 rw [List.take_length,List.length_append];simp
theorem vbs_at (ns:List Nat) (k i:Nat) (hk:k < ns.length) (hi:i < (vb ns[k]).length):([113,115,1]++vbs ns)[offs ns k+i]? =some ((vb ns[k]).getD i 0):=by
 have e:vbs ns=vbs (ns.take k)++(vb ns[k]++vbs (ns.drop (k+1))):=by
  have h1:ns=ns.take k++(ns[k]::ns.drop (k+1)):=by rw [←List.drop_eq_getElem_cons hk,List.take_append_drop]
  have h2:=congrArg vbs h1
  rw [vbs_append,vbs_cons] at h2
  exact h2
 unfold offs
 rw [List.getElem?_append_right (by simp;omega),e,List.getElem?_append_right (by simp;omega),List.getElem?_append_left (by simp;omega),List.getD_eq_getElem?_getD]
 have e2:3+(vbs (ns.take k)).length+i - [113,115,1].length - (vbs (ns.take k)).length=i:=by simp;omega
 rw [e2,List.getElem?_eq_getElem hi]
 rfl
theorem offs_le (ns:List Nat) (k:Nat) (hk:k < ns.length):offs ns k+(vb ns[k]).length≤([113,115,1]++vbs ns).length:=by
 have hp:=vb_pos ns[k]
 have h:=vbs_at ns k ((vb ns[k]).length - 1) hk (by omega)
 have:=(List.getElem?_eq_some_iff.1 h).1
 omega
def RI (w0:World) (r tb N cap:Nat) (ns:List Nat) (k o j:Nat) (w:World):Prop:=
 (∃ nv n sv m l,Row w r 4 (fl [slc tb N cap, .int .i64 (o:Nat),nv,sv])∧w.ownsRow w0.heap.size 37 1 nv n (ul (ns.take k))∧w.ownsRow w0.heap.size 385 3 sv m (secs l)∧l.length=j∧(∀ b,nv.ownBlock=some b→sv.ownBlock≠some b))∧Mod (One r) w0 w
section
variable {w0:World} {r tb N cap:Nat} {ns:List Nat}
set_option maxRecDepth 100000 in
set_option maxHeartbeats 1000000 in
theorem number_ok (hr:r < w0.heap.size) (hbr:tb≠r) (hN:N=([113,115,1]++vbs ns).length) (hN2:N≤1000000) (hcap:N≤cap) (hns:∀ x∈ns,x < 18446744073709551616) (hnl:ns.length≤60000) (RB:Row w0 tb N (fl (bl ([113,115,1]++vbs ns)))) (k j:Nat) (hk:k < ns.length) (w:World) (I:RI w0 r tb N cap ns k (offs ns k) j w):
  Calls Tryz.prog 241 #[ptr r] w fun e w' => e= .returned (.int .u64 (ns[k]:Nat))∧RI w0 r tb N cap ns (k+1) (offs ns (k+1)) j w' :=by
 obtain ⟨⟨nv,n,sv,m,l,R,hO,hS,hl,hd⟩,hm⟩:=I
 obtain ⟨x,hx⟩:∃ x,x=ns[k]:=⟨_,rfl⟩
 have hxl:=hns _ (List.getElem_mem hk)
 have hoN:=offs_le ns k hk
 have hbytes:=vbs_at ns k
 have hsucc:=offs_succ ns k hk
 have hp:=vb_pos ns[k]
 have hul:=ul_append (ns.take k) [ns[k]]
 have htk:ns.take (k+1)=ns.take k++ [ns[k]]:=List.take_succ_eq_append_getElem hk
 rw [←hx] at hxl hoN hsucc hp hul htk
 obtain ⟨ok,hok⟩:∃ ok,ok=offs ns k:=⟨_,rfl⟩
 rw [←hok] at R hoN hsucc
 have hon:ok+(vb x).length≤N:=by rw [hN];exact hoN
 have o1:(ok:Int) < N:=by omega
 have o2:(ok:Int)≤N:=by omega
 have o3:(ok:Int)≤cap:=by omega
 have o4:¬cap=ok:=by omega
 have o5:(N:Int)≤1000000:=by omega
 have RBw:Row w tb N (fl (bl ([113,115,1]++vbs ns))):=RB.mod hm (fun h=> hbr h)
 have hcell:∀ i,i < (vb x).length→w.cell? ⟨tb,ok+i,none⟩=some (.int .u8 ((vb x).getD i 0:Nat)):=by
  intro i hi
  have h1:=hbytes i hk (by rw [←hx];exact hi)
  rw [←hok,←hx] at h1
  rw [RBw.cell (by omega)]
  unfold fl bl
  rw [List.getD_eq_getElem?_getD,List.getElem?_map,h1]
  rfl
 have hnn:(ul (ns.take k)).length=n * 1:=hO.1
 rw [ul_len,List.length_take] at hnn
 have HH:=Lib.hid (And.intro hN (And.intro hN2 (And.intro hcap (And.intro hxl (And.intro hon (And.intro hsucc (And.intro hp (And.intro hul (And.intro htk (And.intro hx (And.intro hok (And.intro hcell (And.intro hd (And.intro hl (And.intro hnl (And.intro hnn hk))))))))))))))))
 have lR:=R.lt
 obtain ⟨no,nc,rfl⟩:=own_slice hO
 obtain ⟨so,sc_,rfl⟩:=own_slice hS
 clear hN hN2 hcap hns hnl hxl hoN hbytes hsucc hp hul htk hx hok hon hcell hl hnn hd
 have c0:=R.cL 0 _ (by omega) rfl
 have c1:=R.cL 1 _ (by omega) rfl
 go_enter Tryz.func241,Tryz.ntmps241
 go_upto_region 1 with fail
 refine wp_region_chain (fun w' => w'.cell? ⟨r,0,none⟩=some (slc tb N cap)∧w'.cell? ⟨r,1,none⟩=some (.int .i64 ok)) [9] [] [] (rds [0,1,2,3,4,5,6,7,8] (.ef 9 (rds [10,11,12,13,14,15,16] .nil))) (by kernel_rfl) (by kernel_rfl) ⟨c0,c1⟩ (fun ops hO=> ?_)
 have HO:=Lib.hid hO
 clear hO
 simp only [rds]
 (repeat (first|(refine lxp HO (v:=?_) (fun w'=> ?_) ?_;rotate_left;(focus (go_simp;(try exact rfl);done));try go_simp)|(refine lxr HO (v:=?_) (fun w' hC'=> ?_) ?_;rotate_left;(focus (obtain ⟨c0,c1⟩:=hC';go_simp;(try exact rfl);done));try go_simp)|(refine lxo HO ?_;try go_simp)))
 refine lxe HO (fun Kx hKx=> ?_)
 go_simp
 refine (read_ok tb ok (N - ok) (cap - ok) x HH.out.2.2.2.1 (by have:=HH.out.2.2.2.2.1;omega) w.drew (fun i hi=> HH.out.2.2.2.2.2.2.2.2.2.2.2.1 i hi)).mono ?_
 rintro e w1 ⟨rfl,hb1⟩
 have m1:Mod No w w1:=Mod.trans (Mod.refl No w).drew (Mod.of_below hb1 No) (fun _ _ h=> h)
 have R1:=R.mod m1 (fun h=> h)
 have hO1:=ownsRow_mod hO m1 (fun b _ h=> h)
 have hS1:=ownsRow_mod hS m1 (fun b _ h=> h)
 have mm1:Mod (One r) w0 w1:=Mod.trans hm (m1.no _) (fun _ _ h=> h)
 refine hKx _ _ (.inr ⟨R1.cL 0 _ (by omega) rfl,R1.cL 1 _ (by omega) rfl⟩) ?_
 clear hKx Kx c0 c1
 (repeat (first|(refine lxp HO (v:=?_) (fun w'=> ?_) ?_;rotate_left;(focus (go_simp;(try exact rfl);done));try go_simp)|(refine lxr HO (v:=?_) (fun w' hC'=> ?_) ?_;rotate_left;(focus (obtain ⟨c0,c1⟩:=hC';go_simp;(try exact rfl);done));try go_simp)|(refine lxo HO ?_;try go_simp)))
 refine wpL_nil ?_
 obtain ⟨Lx,hLx⟩:∃ Lx,Lx=(vb x).length:=⟨_,rfl⟩
 rw [←hLx]
 have hL10:(Lx:Int)≤10:=by have:=vb_len64 HH.out.2.2.2.1;omega
 have HL:=Lib.hid hLx
 clear hLx
 have lR1:=R1.lt
 have d1:=R1.cL 1 _ (by omega) rfl
 have f1:=R1.free 1
 go_upto_region 5 with fail
 refine wp_world (fun W=> Row W r 4 (fl [slc tb N cap, .int .i64 (ok+Lx:Nat), .slice no n nc, .slice so m sc_])∧W.ownsRow w0.heap.size 37 1 (.slice no n nc) n (ul (ns.take k))∧W.ownsRow w0.heap.size 385 3 (.slice so m sc_) m (secs l)∧Mod (One r) w0 W) ?_ ?_
 ·have ms:Mod (One r) w1 _:=Mod.setCell (Mod.refl (One r) w1) (p:=⟨r,1,none⟩) (.inr (show One r r from rfl)) (.int .i64 ((ok:Int)+Lx))
  have nO:∀ b,(Value.slice no n nc).ownBlock=some b→¬One r b:=fun b hb e=> by have:=(hO.lt b hb).1;have:b=r:=e;omega
  have nS:∀ b,(Value.slice so m sc_).ownBlock=some b→¬One r b:=fun b hb e=> by have:=(hS.lt b hb).1;have:b=r:=e;omega
  refine ⟨(R1.set (i:=1) (by omega) _).congr (fun i hi=> ?_),ownsRow_mod hO1 ms nO,ownsRow_mod hS1 ms nS,Mod.trans mm1 ms (fun _ _ h=> h)⟩
  rcases (by omega:i=0∨i=1∨i=2∨i=3) with rfl|rfl|rfl|rfl <;> rfl
 intro W ⟨RW,hOW,hSW,mW⟩
 clear R1 hO1 hS1 mm1 lR1 d1 f1 R hO hS hm lR RBw
 have lRW:=RW.lt
 have d2:=RW.cL 2 _ (by omega) rfl
 have lzW:=mW.size
 go_wp2_with (at_builtin;go_must (refine wpList_app_c 37 _ 1 8 Tryz.infoU64 rfl _ _ 172 rfl Tryz.underlying172 rfl (by decide) (by decide) [.int .u64 x] rfl (by simp [Value.oneCell']) w0.heap.size (.slice no n nc) n (ul (ns.take k)) _ _ rfl rfl ?_ ?_ ?_ ?_ ?_);go_must (· (simp;omega));go_must (· (have:=HH.out.2.2.2.2.2.2.2.2.2.2.2.2.2.2;omega));go_must (· (repeat first|(with_reducible exact hOW)|(with_reducible refine World.ownsRow.drew ?_)|(with_reducible refine World.ownsRow.alloc ?_ _)));go_must (· exact row_one _ _ _ _ rfl);go_must (intro gt ct wA hA);go_must (have RA:=Row.mod (Row.alloc RW _) hA.mod (fun h=> by have:=(hOW.lt _ h).1;omega));go_must (have lRA:=RA.lt);go_must (have f2:=RA.free 2);go_must (have d2A:=RA.cL 2 _ (by omega) rfl))
 have mA:Mod (fun b=> (Value.slice no n nc).ownBlock=some b) W wA:=Mod.trans ((Mod.refl _ W).alloc _) hA.mod (fun _ _ h=> h)
 have ms:Mod (One r) wA _:=Mod.setCell (Mod.refl (One r) wA) (p:=⟨r,2,none⟩) (.inr (show One r r from rfl)) (.slice (some ⟨gt,0,none⟩) (n+1) ct)
 go_ret
 refine ⟨by rw [←HH.out.2.2.2.2.2.2.2.2.2.1];rfl,⟨.slice (some ⟨gt,0,none⟩) (n+1) ct,n+1, .slice so m sc_,m,l, ?_, ?_, ?_,HH.out.2.2.2.2.2.2.2.2.2.2.2.2.2.1, ?_⟩, ?_⟩
 ·refine (RA.set (i:=2) (by omega) _).congr (fun i hi=> ?_)
  have e:=HH.out.2.2.2.2.2.1
  rw [e,←HL.out]
  rcases (by omega:i=0∨i=1∨i=2∨i=3) with rfl|rfl|rfl|rfl <;> rfl
 ·have hOA:=hA.own
  rw [HH.out.2.2.2.2.2.2.2.2.1,HH.out.2.2.2.2.2.2.2.1]
  refine ownsRow_mod hOA ms (fun b hb e=> ?_)
  obtain rfl:gt=b:=Option.some.inj hb
  have:=hA.base
  have:gt=r:=e
  omega
 ·refine ownsRow_mod (ownsRow_mod hSW mA (fun b hb h=> HH.out.2.2.2.2.2.2.2.2.2.2.2.2.1 b h hb)) ms (fun b hb e=> ?_)
  have:=(hSW.lt b hb).1
  have:b=r:=e
  omega
 ·intro b hb hsb
  obtain rfl:gt=b:=Option.some.inj hb
  rcases hA.at_ with h|h
  ·exact HH.out.2.2.2.2.2.2.2.2.2.2.2.2.1 _ h hsb
  ·simp only [World.size_alloc] at h
   have:=(hSW.lt _ hsb).2
   omega
 ·refine Mod.trans mW (Mod.trans (mA.mono (fun b _ h=> .inl h)) (ms.mono (fun b _ h=> .inr h)) (S:=fun b=> (Value.slice no n nc).ownBlock=some b∨One r b) (fun _ _ h=> h)) (fun b hb h=> ?_)
  rcases h with h|h
  ·have:=(hOW.lt b h).1;omega
  ·exact h
structure RdFix (w0:World) (r tb N cap:Nat) (ns:List Nat):Prop where
 hr:r < w0.heap.size
 hbr:tb≠r
 hN:N=([113,115,1]++vbs ns).length
 hN2:N≤1000000
 hcap:N≤cap
 hns:∀ x∈ns,x < 18446744073709551616
 hnl:ns.length≤60000
 RB:Row w0 tb N (fl (bl ([113,115,1]++vbs ns)))
theorem num_ok (F:RdFix w0 r tb N cap ns) (k j x:Nat) (hx:ns[k]? =some x) (w:World) (I:RI w0 r tb N cap ns k (offs ns k) j w):
  Calls Tryz.prog 241 #[ptr r] w fun e w' => e= .returned (.int .u64 x)∧RI w0 r tb N cap ns (k+1) (offs ns (k+1)) j w' :=by
 obtain ⟨hk,rfl⟩:=List.getElem?_eq_some_iff.1 hx
 exact number_ok F.hr F.hbr F.hN F.hN2 F.hcap F.hns F.hnl F.RB k j hk w I
theorem count_ok (F:RdFix w0 r tb N cap ns) (k j x lo hi:Nat) (hx:ns[k]? =some x) (h1:lo≤x) (h2:x≤hi) (h3:x≤65535) (w:World) (I:RI w0 r tb N cap ns k (offs ns k) j w):
  Calls Tryz.prog 242 #[ptr r, .int .u64 lo, .int .u64 hi] w fun e w' => e= .returned (.int .i64 x)∧RI w0 r tb N cap ns (k+1) (offs ns (k+1)) j w' :=by
 have d1:(lo:Int)≤x:=by omega
 have d2:(x:Int)≤hi:=by omega
 have hw:IntKind.i64.wrap (x:Int)=x:=by rw [IntKind.wrap_i64];omega
 have H3:=Lib.hid h3
 clear h1 h2 h3
 go_enter Tryz.func242,Tryz.ntmps242
 go_wp2_with fail
 refine (num_ok F k j x hx _ I).mono ?_;rintro e w1 ⟨rfl,I1⟩
 go_wp2
 go_ret
 exact ⟨rfl,I1⟩
theorem skip_ok (F:RdFix w0 r tb N cap ns) (k j n:Nat) (hn:k+n≤ns.length) (w:World) (I:RI w0 r tb N cap ns k (offs ns k) j w):
  Calls Tryz.prog 243 #[ptr r, .int .i64 n] w fun e w' => e= .returned (.tuple #[])∧RI w0 r tb N cap ns (k+n) (offs ns (k+n)) j w' :=by
 have HN:=Lib.hid (And.intro hn F.hnl)
 clear hn
 go_enter Tryz.func243,Tryz.ntmps243
 go_wp2
 go_loopw [5] (fun s5 wr=> ∃ i:Nat,s5= .int .i64 i∧i≤n∧RI w0 r tb N cap ns (k+i) (offs ns (k+i)) j wr) (fun s5 _=> n - (RowKit.intOf s5).toNat)
 case atStart=> exact ⟨0,rfl,by omega,I⟩
 case round=>
  obtain ⟨wk,rfl⟩:∃ W,W=wr:=⟨wr,rfl⟩
  obtain ⟨i,rfl,hi,Ii⟩:=hrel
  by_cases hin:i < n
  ·have i1:(i:Int) < n:=by omega
   have hwk:IntKind.i64.wrap ((i:Int)+1)=(i:Int)+1:=by have:=HN.out;rw [IntKind.wrap_i64];omega
   go_wp2_with fail
   refine (num_ok F (k+i) j _ (List.getElem?_eq_getElem (show k+i < ns.length by have:=HN.out;omega)) _ Ii).mono ?_;rintro e w1 ⟨rfl,I1⟩
   go_wp2
   exact ⟨⟨i+1,by go_num,by omega,I1⟩,by simp only [RowKit.intOf];omega⟩
  ·obtain rfl:i=n:=by omega
   have i1:(i:Int)≤i:=by omega
   go_wp2
   go_end0
   exact ⟨rfl,Ii⟩
set_option maxRecDepth 100000 in
set_option maxHeartbeats 1000000 in
theorem end_ok (F:RdFix w0 r tb N cap ns) (k o j:Nat) (hj:j≤100) (s:ByteArray) (w:World) (I:RI w0 r tb N cap ns k o j w):
  Calls Tryz.prog 240 #[ptr r, .string s] w fun e w' => e= .returned (.tuple #[])∧RI w0 r tb N cap ns k o (j+1) w' :=by
 obtain ⟨⟨nv,n,sv,m,l,R,hO,hS,hl,hd⟩,hm⟩:=I
 have hsm:(secs l).length=m * 3:=hS.1
 rw [secs_len,hl] at hsm
 obtain rfl:m=j:=by omega
 clear hsm
 obtain ⟨no,nc,rfl⟩:=own_slice hO
 obtain ⟨so,sc_,rfl⟩:=own_slice hS
 have lR:=R.lt
 have HH:=Lib.hid (And.intro hl hd)
 have j5:(m:Int)≤100:=by omega
 have c0:=R.cL 3 _ (by omega) rfl
 have hwk:IntKind.i64.wrap ((m:Int) - 1)=(m:Int) - 1:=by rw [IntKind.wrap_i64];omega
 go_enter Tryz.func240,Tryz.ntmps240
 go_upto_if 12 with fail
 go_cut [4] (fun s4 wx=> ∃ x:Int,s4= .int .i64 x∧wx=w)
 case first=>
  by_cases hm0:0 < m
  ·have d0:(0:Int) < m:=by omega
   obtain ⟨g,cp,hsv,hg1,hg2⟩:=own_pos hS hm0
   obtain ⟨x,hx⟩:=secs_last l (by omega)
   rw [hsv] at hS c0
   have RS:=own_row hS
   have hcx:w.cell? ⟨g,(m - 1) * 3+2,none⟩=some (.int .i64 x):=by
    rw [RS.cell (by omega)]
    rw [hl] at hx
    exact congrArg some hx
   have d1:(m:Int) - 1 < m:=by omega
   have d2:(0:Int)≤(m:Int) - 1:=by omega
   have d3:((m:Int) - 1).toNat=m - 1:=by omega
   clear hd hl hx hsv
   go_wp2
   go_meet
   exact ⟨x,rfl,rfl⟩
  ·have d0:(m:Int)≤0:=by omega
   go_wp2
   go_meet
   exact ⟨0,rfl,rfl⟩
 case rest=>
  obtain ⟨x,rfl,rfl⟩:=hcut
  have c1:=R.cL 1 _ (by omega) rfl
  go_upto_region 4 with fail
  refine wp_region_chain (fun w' => w'.cell? ⟨r,3,none⟩=some (.slice so m sc_)∧w'.cell? ⟨r,1,none⟩=some (.int .i64 (o:Nat))) [12,13,16] [14,15] [16] (rds [0,1,2,3,4,5,6,7,8,9,10,11] (.ef 12 (.ef 13 (rds [14,15] (.ef 16 .nil))))) (by kernel_rfl) (by kernel_rfl) ⟨c0,c1⟩ (fun ops hO=> ?_)
  have HO:=Lib.hid hO
  clear hO
  simp only [rds]
  (repeat (first|(refine lxp HO (v:=?_) (fun w'=> ?_) ?_;rotate_left;(focus (go_simp;(try exact rfl);done));try go_simp)|(refine lxr HO (v:=?_) (fun w' hC'=> ?_) ?_;rotate_left;(focus (obtain ⟨c0,c1⟩:=hC';go_simp;(try exact rfl);done));try go_simp)|(refine lxo HO ?_;try go_simp)))
  (refine lxe HO (fun K hK=> ?_);go_simp;refine hK _ _ ?_ ?_;all_goals clear hK K)
  ·exact .inr ⟨(R.drew.alloc _).cL 3 _ (by omega) rfl,(R.drew.alloc _).cL 1 _ (by omega) rfl⟩
  (repeat (first|(refine lxp HO (v:=?_) (fun w'=> ?_) ?_;rotate_left;(focus (go_simp;(try exact rfl);done));try go_simp)|(refine lxr HO (v:=?_) (fun w' hC'=> ?_) ?_;rotate_left;(focus (obtain ⟨c0,c1⟩:=hC';go_simp;(try exact rfl);done));try go_simp)|(refine lxo HO ?_;try go_simp)))
  refine lxe HO (fun Kx hKx=> ?_)
  have lz:=hm.size
  refine step_app_c 385 _ 3 32 Tryz.infoSec rfl _ _ 181 rfl Tryz.underlying181 rfl (by decide) (by decide) [.string s, .int .i64 x, .int .i64 (o:Nat)] rfl (by simp [Value.oneCell']) w0.heap.size (.slice so m sc_) m (secs l) _ _ rfl rfl (by (simp;omega)) (by omega) (by (repeat first|(with_reducible exact hS)|(with_reducible refine World.ownsRow.drew ?_)|(with_reducible refine World.ownsRow.alloc ?_ _))) (row_newL' _ _ [_,_,_] _ (by simp)) ?_;intro gt ct wA hA
  have nR:¬(Value.slice so m sc_).ownBlock=some r:=fun h=> by have:=(hS.lt _ h).1;have:=F.hr;omega
  have RA:=Row.mod (R.drew.alloc _) hA.mod nR
  have lRA:=RA.lt
  have f3:=RA.free 3
  have d3:=RA.cL 3 _ (by omega) rfl
  have d1:=RA.cL 1 _ (by omega) rfl
  have mA:Mod (fun b=> (Value.slice so m sc_).ownBlock=some b) wc wA:=Mod.trans ((Mod.refl _ wc).drew.alloc _) hA.mod (fun _ _ h=> h)
  have mr:Mod (One r) wA _:=Mod.setCell (Mod.refl (One r) wA) (p:=⟨r,3,none⟩) (.inr (show One r r from rfl)) (.slice (some ⟨gt,0,none⟩) (m+1) ct)
  go_simp
  refine hKx _ _ (.inr ⟨RA.cL 3 _ (by omega) rfl,d1⟩) ?_
  clear hKx Kx
  (repeat (first|(refine lxp HO (v:=?_) (fun w'=> ?_) ?_;rotate_left;(focus (go_simp;(try exact rfl);done));try go_simp)|(refine lxr HO (v:=?_) (fun w' hC'=> ?_) ?_;rotate_left;(focus (obtain ⟨c0,c1⟩:=hC';go_simp;(try exact rfl);done));try go_simp)|(refine lxo HO ?_;try go_simp)))
  (refine lxe HO (fun K hK=> ?_);go_simp;refine hK _ _ (.inl (by rfl)) ?_;clear hK K)
  refine wpL_nil ?_
  go_wp2
  go_end0
  refine ⟨rfl,⟨.slice no n nc,n, .slice (some ⟨gt,0,none⟩) (m+1) ct,m+1,l++ [(s,x,((o:Nat):Int))], ?_, ?_, ?_,by rw [List.length_append,HH.out.1];rfl, ?_⟩, ?_⟩
  ·refine (RA.set (i:=3) (by omega) _).congr (fun i hi=> ?_)
   rcases (by omega:i=0∨i=1∨i=2∨i=3) with rfl|rfl|rfl|rfl <;> rfl
  ·refine ownsRow_mod (ownsRow_mod hO mA (fun b hb h=> HH.out.2 b hb h)) mr (fun b hb e=> ?_)
   have:=(hO.lt b hb).1
   have:=F.hr
   have:b=r:=e
   omega
  ·rw [secs_snoc]
   refine ownsRow_mod hA.own mr (fun b hb e=> ?_)
   obtain rfl:gt=b:=Option.some.inj hb
   have:=hA.base
   have:=F.hr
   have:gt=r:=e
   omega
  ·intro b hb hsb
   obtain rfl:gt=b:=Option.some.inj hsb
   rcases hA.at_ with h|h
   ·exact HH.out.2 _ hb h
   ·simp only [World.size_alloc,World.size_drew] at h
    have:=(hO.lt _ hb).2
    omega
  ·refine Mod.trans hm (Mod.trans (mA.mono (fun b _ h=> .inl h)) (mr.mono (fun b _ h=> .inr h)) (S:=fun b=> (Value.slice so m sc_).ownBlock=some b∨One r b) (fun _ _ h=> h)) (fun b hb h=> ?_)
   rcases h with h|h
   ·have:=(hS.lt b h).1;omega
   ·exact h
end
end Go.Q
