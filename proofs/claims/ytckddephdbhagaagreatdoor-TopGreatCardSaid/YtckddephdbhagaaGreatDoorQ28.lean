/- A part of the proof that TopGreat answers true: what some of the functions on its road compute. -/
import Derived.Lib.VarintBits
import Derived.Lib.Varint
import Derived.Lib.SlBytesConst
import Derived.Test.YtckddephdbhagaaGreatDoorQ15
import Derived.Test.YtckddephdbhagaaGreatDoorQ16
import Derived.Test.YtckddephdbhagaaGreatDoorQ27
set_option linter.unusedVariables false
set_option linter.unusedSimpArgs false
namespace Go.Q
open Go.RowKit Go.Proofs
def pl (nx:Nat) (A:ASt):List (List Nat):= [[nx], [A.C,A.cr.toNat,A.G],gnum A 1 (A.G - 1),inum A.clocks 0 A.C,inum A.current 0 A.C,tnum A.task,snum A 0 A.G]
theorem pl_nums (nx:Nat) (A:ASt):(pl nx A).flatten=nums nx A:=by simp [pl,nums]
abbrev prow (s:Nat→ByteArray) (nx:Nat) (B:STB) (A:ASt):List Value:= [.string (s 0), .func (.func 229) #[snv nx B A] #[], .string (s 1), .func (.func 230) #[snv nx B A] #[], .string (s 2), .func (.func 231) #[snv nx B A] #[],
 .string (s 3), .func (.func 232) #[snv nx B A] #[], .string (s 4), .func (.func 233) #[snv nx B A] #[], .string (s 5), .func (.func 234) #[snv nx B A] #[], .string (s 6), .func (.func 235) #[snv nx B A] #[]]
theorem c_parts {w:World} {B:STB} {A:ASt} (nx:Nat):Calls Tryz.prog 177 #[snv nx B A] w fun e w' => ∃ ab lb s,e= .returned (.func (.func 236) #[] #[ptr ab])∧Row w' ab 1 (fl [slc lb 7 7])∧Row w' lb 14 (fl (prow s nx B A))∧Mod No w w' :=by
 have hmf:∀ (fn:Fn) (first cap:Array Value) (w:World),(Instr.makeFunc fn first cap).run Tryz.prog w= .ok (.func fn first cap) w:=fun _ _ _ _=> rfl
 go_enter Tryz.func177,Tryz.ntmps177
 go_wp2
 go_ret
 refine ⟨_,_,fun i=> ([⟨#[110,101,120,116]⟩,⟨#[99,111,110,102,105,103]⟩,⟨#[103,114,111,117,112,115]⟩,⟨#[99,108,111,99,107,115]⟩,⟨#[99,117,114,114,101,110,116]⟩,⟨#[116,97,115,107,115]⟩,⟨#[115,112,111,116,115]⟩]:List ByteArray).getD i default,rfl,row_one _ _ _ _ (by simp),(row_newL' _ _ [_,_,_,_,_,_,_,_,_,_,_,_,_,_] _ (by simp)).alloc _,by (repeat first|(with_reducible exact (Mod.refl No w))|(with_reducible refine Mod.alloc ?_ _)|(with_reducible refine Mod.drew ?_)|(with_reducible refine Mod.drewN ?_ _)|(with_reducible refine Mod.sc ?_))⟩
attribute [local go_sem] Oper.semAt_some
set_option maxRecDepth 100000 in
set_option maxHeartbeats 2000000 in
theorem parts1_walk (l ab lb:Nat) (s:Nat→ByteArray) (nx:Nat) (B:STB) (A:ASt) (ow:Nat→SOwn) (R:Rg A) (hgc:A.G≤B.gcap) (hnx:nx≤4611686018427387904) (hrd:∀ t,A.task=some t→t.ready=true) (J:Nat→World→Prop) (w:World)
  (hJ:∀ k W,J k W→Row W ab 1 (fl [slc lb 7 7])∧Row W lb 14 (fl (prow s nx B A))∧StAt W ow B A)
  (hM:∀ k W W',J k W→Mod No W W' →J k W')
  (hY:∀ k W v,k < 7→J k W→PAt W v ((pl nx A).getD k [])→YieldAt FW (3 - 1) Tryz.prog l #[.string (s k),v] W fun e W' => e= .returned (.bool true)∧J (k+1) W')
  (h0:J 0 w):CallsIn FW 3 Tryz.prog 236 #[.func (.yield l) #[] #[],ptr ab] w fun e w' => (∃ v,e= .returned v)∧J 7 w' :=by
 have hst:∀ (a:Addr) (f:Fn) (x y:Array Value) (m:Mode) (w:World),(store a (.func f x y) m).run Tryz.prog w=stored Tryz.prog w a (.func f x y) m:=fun a f x y m w=> run_store Tryz.prog w a _ m rfl
 refine callsIn_of_wp Tryz.func236 rfl trivial ?_ rfl
 simp only [Tryz.ntmps236,List.size_toArray,List.length_cons,List.length_nil,Nat.reduceAdd,Nat.reduceSub,Array.replicate_succ,Array.replicate_zero,List.push_toArray,List.append_toArray,List.nil_append,List.cons_append]
 obtain ⟨R0,_,_⟩:=hJ 0 w h0
 have c0:w.cell? ⟨ab,0,none⟩=some (slc lb 7 7):=R0.cell (i:=0) (by omega)
 clear R0
 have HH:=Lib.hid (And.intro hJ (And.intro hM (And.intro hY (And.intro R (And.intro hgc (And.intro hnx hrd))))))
 clear hJ hM hY R hgc hnx hrd
 gi_wp2
 clear c0
 gi_loopw [7] (fun s7 wr=> ∃ k:Nat,s7= .int .i64 k∧k≤7∧J k wr) (fun s7 _=> 7 - (RowKit.intOf s7).toNat)
 case atStart=> exact ⟨0,rfl,by omega,h0⟩
 case round=>
  obtain ⟨wk,rfl⟩:∃ W,W=wr:=⟨wr,rfl⟩
  obtain ⟨k,rfl,hk,hj⟩:=hrel
  by_cases hk7:k < 7
  ·obtain ⟨R0,R1,S⟩:=HH.out.1 k wk hj
   have i1:(k:Int) < 7:=by omega
   have l1:=R1.lt
   have e0:wk.cell? ⟨lb,k * 2,none⟩=some (.string (s k)):=by
    rw [R1.cell (by omega)]
    rcases (by omega:k=0∨k=1∨k=2∨k=3∨k=4∨k=5∨k=6) with rfl|rfl|rfl|rfl|rfl|rfl|rfl <;> rfl
   obtain ⟨fk,hfk⟩:∃ fk,fk= [229,230,231,232,233,234,235].getD k 0:=⟨_,rfl⟩
   have e1:wk.cell? ⟨lb,k * 2+1,none⟩=some (.func (.func fk) #[snv nx B A] #[]):=by
    rw [R1.cell (by omega),hfk]
    rcases (by omega:k=0∨k=1∨k=2∨k=3∨k=4∨k=5∨k=6) with rfl|rfl|rfl|rfl|rfl|rfl|rfl <;> rfl
   have he:∀ (args:Array Value) (w:World),(callFunc fk args).run Tryz.prog w= .ok (.enter fk args) w:=by
    rw [hfk]
    rcases (by omega:k=0∨k=1∨k=2∨k=3∨k=4∨k=5∨k=6) with rfl|rfl|rfl|rfl|rfl|rfl|rfl
    ·exact enters_of Tryz.func229 (by kernel_rfl) rfl
    ·exact enters_of Tryz.func230 (by kernel_rfl) rfl
    ·exact enters_of Tryz.func231 (by kernel_rfl) rfl
    ·exact enters_of Tryz.func232 (by kernel_rfl) rfl
    ·exact enters_of Tryz.func233 (by kernel_rfl) rfl
    ·exact enters_of Tryz.func234 (by kernel_rfl) rfl
    ·exact enters_of Tryz.func235 (by kernel_rfl) rfl
   have hc:∀ W,StAt W ow B A→Calls Tryz.prog fk #[snv nx B A] W fun e W' => ∃ v,e= .returned v∧PAt W' v ((pl nx A).getD k [])∧Mod No W W' :=by
    intro W SW
    rw [hfk]
    rcases (by omega:k=0∨k=1∨k=2∨k=3∨k=4∨k=5∨k=6) with rfl|rfl|rfl|rfl|rfl|rfl|rfl
    ·exact c_next nx HH.out.2.2.2.2.2.1
    ·exact c_config nx HH.out.2.2.2.1
    ·exact c_groups nx HH.out.2.2.2.1 HH.out.2.2.2.2.1 SW
    ·exact c_clocks nx HH.out.2.2.2.1 SW
    ·exact c_current nx HH.out.2.2.2.1 SW
    ·cases hA:A.task with
     |none=> have:=c_tasks0 nx SW hA;rw [hA] at this;simpa [pl,hA] using this
     |some t=> have:=c_tasks1 nx HH.out.2.2.2.1 SW t hA (HH.out.2.2.2.2.2.2 t hA);rw [hA] at this;simpa [pl,hA] using this
    ·exact c_spots nx HH.out.2.2.2.1 SW
   have HC:=Lib.hid hc
   clear hc hfk
   gi_wp2_with fail
   refine wpIn_world (fun U=> J k U∧Mod No wk U∧Row U wk.heap.size 2 (fl [.string (s k), .func (.func fk) #[snv nx B A] #[]])) ⟨HH.out.2.1 k wk _ hj ((Mod.refl No wk).alloc _),(Mod.refl No wk).alloc _,row_newL wk [_,_] _⟩ ?_
   intro U ⟨jU,mU,XU⟩
   obtain ⟨xb,hxb⟩:∃ n,n=wk.heap.size:=⟨_,rfl⟩
   rw [←hxb] at XU ⊢
   clear hxb e0 e1 hj R0 R1 S i1 l1
   refine wpIn_region_chainT (fun W=> W.cell? ⟨xb,0,none⟩=some (.string (s k))∧W.cell? ⟨xb,1,none⟩=some (.func (.func fk) #[snv nx B A] #[])) [5,6] [7] [6] (rds [0,1,2,3,4] (.ef 5 (.ef 6 (rds [7] .nil)))) rfl (by kernel_rfl) (by kernel_rfl) ⟨XU.cL 0 _ (by omega) rfl,XU.cL 1 _ (by omega) rfl⟩ (fun ops hO=> ?_)
   have HO:=Lib.hid hO
   clear hO
   simp only [rds]
   (repeat (first|(refine wpLI_pure (v:=?_) (by rw [HO.out];rfl) (by first|rfl|(rw [HO.out];rfl)) (fun _=> by first|rfl|(rw [HO.out];rfl)) (fun w'=> ?_) ?_;rotate_left;(focus (go_simp;(try exact rfl);done));try go_simp)|(refine wpLI_read (v:=?_) (by rw [HO.out];rfl) (by rfl) (by first|rfl|(rw [HO.out];rfl)) (fun _=> by first|rfl|(rw [HO.out];rfl)) (fun w' hC'=> ?_) ?_;rotate_left;(focus (obtain ⟨c0,c1⟩:=hC';go_simp;(try exact rfl);done));try go_simp)))
   refine wpLI_eff (by rw [HO.out];rfl) (fun Kx hKx=> ?_)
   have j1:=HH.out.2.1 k U _ jU (Mod.refl No U).drew
   have hcc:=(callsIn_wide (n:=2)).2 (HC.out U.drew (HH.out.1 k _ j1).2.2)
   go_simp
   refine ⟨trivial,CallsIn.mono hcc ?_⟩
   rintro e w3 ⟨v,rfl,hP,m3⟩
   refine hKx _ _ (.inr ⟨(XU.drew.mod m3 (fun h=> h)).cL 0 _ (by omega) rfl,(XU.drew.mod m3 (fun h=> h)).cL 1 _ (by omega) rfl⟩) ?_
   clear hKx Kx hcc
   have j3:=HH.out.2.1 k _ w3 j1 m3
   refine wpLI_eff (by rw [HO.out];rfl) (fun Kx hKx=> ?_)
   obtain ⟨fn,tmps,assign,body,hy,hR⟩:=HH.out.2.2.1 k w3 v hk7 j3 hP
   go_simp
   refine hR.mono ?_
   rintro e w4 ⟨rfl,j4⟩
   refine hKx _ _ (.inl (by rfl)) ?_
   clear hKx Kx
   (repeat (first|(refine wpLI_pure (v:=?_) (by rw [HO.out];rfl) (by first|rfl|(rw [HO.out];rfl)) (fun _=> by first|rfl|(rw [HO.out];rfl)) (fun w'=> ?_) ?_;rotate_left;(focus (go_simp;(try exact rfl);done));try go_simp)|(refine wpLI_read (v:=?_) (by rw [HO.out];rfl) (by rfl) (by first|rfl|(rw [HO.out];rfl)) (fun _=> by first|rfl|(rw [HO.out];rfl)) (fun w' hC'=> ?_) ?_;rotate_left;(focus (obtain ⟨c0,c1⟩:=hC';go_simp;(try exact rfl);done));try go_simp)))
   refine wpLI_nil ?_
   gi_wp2
   refine ⟨⟨k+1,by go_num,by omega,j4⟩,by simp only [RowKit.intOf];omega⟩
  ·obtain rfl:k=7:=by omega
   gi_wp2
   go_end0
   exact ⟨⟨_,rfl⟩,hj⟩
end Go.Q
namespace Go.Q
open Go.RowKit Go.Proofs
attribute [local go_sem] Oper.semAt_some
theorem take_next (l:List (List Nat)) (k:Nat) (h:k < l.length):(l.take (k+1)).flatten=(l.take k).flatten++l.getD k []:=by
 rw [List.take_succ_eq_append_getElem h,List.flatten_append,List.getD_eq_getElem?_getD,List.getElem?_eq_getElem h]
 simp
theorem pl_pos (nx:Nat) (A:ASt) (R:Rg A) (k:Nat) (hk:k < 7):0 < ((pl nx A).getD k []).length∧((pl nx A).getD k []).length≤60000:=by
 have h1:=R.G1
 have h2:=R.G2
 have h3:=R.C1
 have h4:=R.C2
 rcases (by omega:k=0∨k=1∨k=2∨k=3∨k=4∨k=5∨k=6) with rfl|rfl|rfl|rfl|rfl|rfl|rfl
 ·simp [pl]
 ·simp [pl]
 ·show 0 < (gnum A 1 (A.G - 1)).length∧_
  rw [gnum_len]
  show _∧(gnum A 1 (A.G - 1)).length≤_
  rw [gnum_len];omega
 ·show 0 < (inum A.clocks 0 A.C).length∧(inum A.clocks 0 A.C).length≤_
  rw [inum_len];omega
 ·show 0 < (inum A.current 0 A.C).length∧(inum A.current 0 A.C).length≤_
  rw [inum_len];omega
 ·show 0 < (tnum A.task).length∧(tnum A.task).length≤_
  rw [tnum_len];split <;> omega
 ·show 0 < (snum A 0 A.G).length∧(snum A 0 A.G).length≤_
  rw [snum_len0 _ _ (by omega)]
  have:(A.G - 1) * (3 * A.C)≤255 * 192:=Nat.mul_le_mul (by omega) (by omega)
  omega
set_option maxRecDepth 100000 in
set_option maxHeartbeats 2000000 in
theorem c_numbers (w:World) (ow:Nat→SOwn) (B:STB) (A:ASt) (nx:Nat) (R:Rg A) (hgc:A.G≤B.gcap) (hnx:nx≤4611686018427387904) (hrd:∀ t,A.task=some t→t.ready=true) (h:StAt w ow B A)
  (hCk:∀ W,StAt W ow B A→Calls Tryz.prog 98 #[snv nx B A] W fun e W' => e= .returned (.int .i64 0)∧Below W.heap.size W W'):
  Calls Tryz.prog 93 #[snv nx B A] w fun e w' => ∃ v,e= .returned (.tuple #[v, .int .i64 0])∧PAt w' v (nums nx A)∧Mod No w w' :=by
 have HH:=Lib.hid (And.intro R (And.intro hgc (And.intro hnx (And.intro hrd (And.intro h hCk)))))
 clear R hgc hnx hrd h hCk
 refine (callsIn_wide (n:=4)).1 ?_
 refine callsIn_of_wp_marks Tryz.func93 rfl trivial ?_ rfl
 simp only [Tryz.ntmps93,List.size_toArray,List.length_cons,List.length_nil,Nat.reduceAdd,Nat.reduceSub,Array.replicate_succ,Array.replicate_zero,List.push_toArray,List.append_toArray,List.nil_append,List.cons_append]
 gi_wp2_with fail
 have m0:Mod No w _:=(Mod.refl No w).alloc (.cells #[.int .i64 nx, .int .i64 A.C, .int .u64 A.cr,slc B.gb A.G B.gcap,slc B.cl A.C B.ccap,slc B.cu A.C B.ucap,B.tv,slc B.so A.G B.scap] 50)
 have hc1:=(callsIn_wide (n:=3)).2 (HH.out.2.2.2.2.2 _ (HH.out.2.2.2.2.1.no m0))
 refine ⟨trivial,CallsIn.mono hc1 ?_⟩
 rintro e w1 ⟨rfl,hb1⟩
 clear hc1
 have m1:Mod No w w1:=Mod.trans m0 (Mod.of_below hb1 No) (fun _ _ h=> h)
 have X1:Row w1 w.heap.size 8 (fl [.int .i64 nx, .int .i64 A.C, .int .u64 A.cr,slc B.gb A.G B.gcap,slc B.cl A.C B.ccap,slc B.cu A.C B.ucap,B.tv,slc B.so A.G B.scap]):=Row.mod (S:=No) (row_newL w [_,_,_,_,_,_,_,_] _) (Mod.of_below hb1 No) (fun h=> h)
 have lX:=X1.lt
 have x0:=X1.cL 0 _ (by omega) rfl
 have x1:=X1.cL 1 _ (by omega) rfl
 have x2:=X1.cL 2 _ (by omega) rfl
 have x3:=X1.cL 3 _ (by omega) rfl
 have x4:=X1.cL 4 _ (by omega) rfl
 have x5:=X1.cL 5 _ (by omega) rfl
 have x6:=X1.cL 6 _ (by omega) rfl
 have x7:=X1.cL 7 _ (by omega) rfl
 gi_wp2_with fail
 have hc2:=(callsIn_wide (n:=3)).2 (c_parts (w:=w1.alloc (.cells #[.slice none 0 0] 172)) (B:=B) (A:=A) nx)
 refine ⟨trivial,CallsIn.mono hc2 ?_⟩
 rintro e w2 ⟨ab,lb,s,rfl,RA,RL,m2⟩
 clear hc2 x0 x1 x2 x3 x4 x5 x6 x7
 gi_wp2_with fail
 have la:=RA.lt
 have ll:=RL.lt
 obtain ⟨ob,hob⟩:∃ n,n=w1.heap.size:=⟨_,rfl⟩
 have RO:Row w2 ob 1 (fl [.slice none 0 0]):=by rw [hob];exact Row.mod (S:=No) (row_newL w1 [_] _) m2 (fun h=> h)
 have lO:=RO.lt
 have mw:Mod No w w2:=Mod.trans m1 (Mod.trans ((Mod.refl No w1).alloc _) m2 (fun _ _ h=> h)) (fun _ _ h=> h)
 have how:w.heap.size≤ob:=by have:=m1.size;omega
 rw [←hob]
 have nab:ab≠ob:=by
  rintro rfl
  have e1:=RA.cL 0 _ (by omega) rfl
  have e2:=RO.cL 0 _ (by omega) rfl
  rw [e1] at e2
  simp at e2
 have nlb:lb≠ob:=by
  rintro rfl
  have e1:=RL.cL 0 _ (by omega) rfl
  have e2:=RO.cL 0 _ (by omega) rfl
  rw [e1] at e2
  simp at e2
 clear hob X1 lX m1 m0 hb1
 refine wpIn_range (gf:=236) (cap:= #[ptr ab]) rfl (enters_of Tryz.func236 (by kernel_rfl) rfl)
  (fun W' => ∃ v n,Row W' ob 1 (fl [v])∧W'.ownsRow (w2.heap.size+2) 37 1 v n (ul (nums nx A))∧0 < n∧Mod (One ob) w2 W' ∧W'.heap[w2.heap.size]? =some (.deferred (some []))) ?h ?hk
 case h=>
  intro fn
  generalize hrec:loopRec fn _ _ _ _ w2.heap.size=rec
  refine (parts1_walk (w2.heap.size+1) ab lb s nx B A ow HH.out.1 HH.out.2.1 HH.out.2.2.1 HH.out.2.2.2.1
   (fun k V=> ∃ v n,Row V ob 1 (fl [v])∧V.ownsRow (w2.heap.size+2) 37 1 v n (ul ((pl nx A).take k).flatten)∧n≤k * 60000∧Mod (One ob) w2 V∧V.heap[w2.heap.size]? =some (.deferred (some []))∧V.heap[w2.heap.size+1]? =some (rec .ready)) _ ?_ ?_ ?_ ⟨.slice none 0 0,0,(RO.alloc _).alloc _,World.ownsRow_nil _ _ _ _,by omega,((Mod.refl _ w2).alloc _).alloc _, ?_, ?_⟩).mono ?_
  ·rintro k V ⟨v,n,h1,h2,h3,h4,h5,h6⟩
   exact ⟨RA.mod h4 nab,RL.mod h4 nlb,(HH.out.2.2.2.2.1.no mw).mod h4 (fun b hb=> Classical.byContradiction fun hh=> by have:=HH.out.2.2.2.2.1.2 _ hh;have:b=ob:=hb;omega)⟩
  ·rintro k V V' ⟨v,n,h1,h2,h3,h4,h5,h6⟩ hm
   exact ⟨v,n,h1.mod hm (fun h=> h),ownsRow_mod h2 hm (fun b _ h=> h),h3,Mod.trans h4 (hm.no _) (fun _ _ h=> h),hm.heap h5 (fun h=> h),hm.heap h6 (fun h=> h)⟩
  ·rintro k V pv hk ⟨v,n,h1,h2,h3,h4,h5,h6⟩ ⟨pg,pc,rfl,PR⟩
   have hpos:=pl_pos nx A HH.out.1 k hk
   have hnx:=take_next (pl nx A) k hk
   obtain ⟨L,hL⟩:∃ L,L=(pl nx A).getD k []:=⟨_,rfl⟩
   rw [←hL] at hpos hnx PR ⊢
   clear hL
   have lV:=h1.lt
   have l6:=Lib.hid (lt_of_block h6)
   have lz:=h4.size
   rw [←hrec] at h6
   have HR:=Lib.hid hrec;clear hrec
   obtain ⟨vo,vc,rfl⟩:=own_slice h2
   refine (yield_round h6 _ rfl (fun V' => ∃ v n,Row V' ob 1 (fl [v])∧V'.ownsRow (w2.heap.size+2) 37 1 v n (ul ((pl nx A).take (k+1)).flatten)∧n≤(k+1) * 60000∧Mod (One ob) w2 V' ∧V'.heap[w2.heap.size]? =some (.deferred (some []))∧V'.heap[w2.heap.size+1]? =some (rec .ready)) ?_).mono (fun e V' h=> h)
   have npg:pg≠w2.heap.size+1:=by
    rintro rfl
    obtain ⟨cs,ty,hb,_⟩:=PR
    rw [hb] at h6
    simp [loopRec] at h6
   have H6:=Lib.hid h6;clear h6
   gi_wp2
   have h6:=H6.out
   refine ⟨by exact h6, ?_⟩
   have hge:w2.heap.size+2≤V.heap.size:=by have:=l6.out;omega
   have ngo:∀ b,(Value.slice vo n vc).ownBlock=some b→¬One (w2.heap.size+1) b:=fun b hb e=> by have:=(h2.lt b hb).1;have:b=w2.heap.size+1:=e;omega
   refine wpIn_world (fun U=> Row U ob 1 (fl [.slice vo n vc])∧U.ownsRow (w2.heap.size+2) 37 1 (.slice vo n vc) n (ul ((pl nx A).take k).flatten)∧Mod (One ob) w2 U∧U.heap[w2.heap.size]? =some (.deferred (some []))∧U.heap[w2.heap.size+1]? =some (loopRec _ _ _ _ _ _ .busy)∧Row U pg (L.length * 1) (fl (ul L))∧V.heap.size≤U.heap.size)
    ⟨row_putObj h1 (by omega),ownsRow_mod h2 ((Mod.refl (One (w2.heap.size+1)) _).setObj (r:=w2.heap.size+1) (.inr rfl) _) ngo,mod_putObj h4 (.inl (by omega)),heap_putObj h5 (by omega),World.putObj_heap_same l6.out,row_putObj PR npg.symm,by simp [World.putObj]⟩ ?_
   rintro U ⟨g1,g2,g3,g4,g5,g6,g7⟩
   have c0:=g1.cL 0 _ (by omega) rfl
   have z0:=g1.free 0
   have lU:=g1.lt
   clear h6
   have nb:∀ b,b < w2.heap.size+2→¬(Value.slice vo n vc).ownBlock=some b:=fun b hb e=> by have:=(g2.lt b e).1;omega
   have HN:=Lib.hid (And.intro hnx (And.intro hpos h3))
   clear hnx hpos h3
   gi_wp2_with (gi_at_builtin;go_must (refine wpListIn_app_m 37 _ 1 8 Tryz.infoU64 rfl _ _ 172 rfl Tryz.underlying172 rfl (by decide) (by decide) L.length (ul L) (by rw [ul_len,Nat.mul_one]) (ul_one _) (w2.heap.size+2) (.slice vo n vc) n (ul ((pl nx A).take k).flatten) _ _ rfl rfl ?_ ?_ ?_ ?_ ?_ ?_);go_must (· exact HN.out.2.1.1);go_must (· omega);go_must (· (have:=HN.out;omega));go_must (· (repeat first|(with_reducible exact g2)|(with_reducible refine World.ownsRow.drew ?_)|(with_reducible refine World.ownsRow.alloc ?_ _)));go_must (· exact g6);go_must (intro gt ct wA hA);go_must (have gA:=Row.mod g1 hA.mod (nb _ (by omega));have lA:=gA.lt;have cA:=gA.cL 0 _ (by omega) rfl;have zA:=gA.free 0))
   have mA:Mod (fun b=> (Value.slice vo n vc).ownBlock=some b) U wA:=hA.mod
   have g3A:Mod (One ob) w2 wA:=Mod.trans g3 mA (fun b hb h=> absurd h (nb b (by omega)))
   have hgt:w2.heap.size+1 < gt:=by have:=hA.base;omega
   refine ⟨heap_setCell (mA.heap g5 (nb _ (by omega))) (by show ob≠w2.heap.size+1;omega) _, .slice (some ⟨gt,0,none⟩) (n+L.length) ct,row_putObj ((gA.set (i:=0) (by omega) _).congr (fun i hi=> by obtain rfl:i=0:=(by omega);rfl)) (by omega),n+L.length, ?_,by have:=HN.out;omega,mod_putObj (g3A.setCell (p:=⟨ob,0,none⟩) (.inr (show One ob ob from rfl)) _) (.inl (by omega)),heap_putObj (heap_setCell (mA.heap g4 (nb _ (by omega))) (by show ob≠w2.heap.size;omega) _) (by omega), ?_⟩
   ·have hO:=hA.own
    rw [←ul_append] at hO
    refine ownsRow_mod hO (S:=fun b=> b < w2.heap.size+2) (Mod.setObj (Mod.setCell (Mod.refl _ wA) (.inr (by show ob < _;omega)) _) (.inr (by show w2.heap.size+1 < _;omega)) _) (fun b hb h=> ?_)
    obtain rfl:gt=b:=Option.some.inj hb
    have:gt < w2.heap.size+2:=h
    omega
   ·rw [←HR.out];exact World.putObj_heap_same (by have:=lt_of_block (mA.heap g5 (nb _ (by omega)));simpa using this)
  ·rw [Below.heap_alloc _ _ _ (by simp)];exact World.alloc_heap_new _ _
  ·rw [←hrec];exact (by have:=World.alloc_heap_new (w2.alloc (.deferred (some [])));rw [World.size_alloc] at this;exact this _)
  ·rintro e V ⟨⟨v,rfl⟩,v2,n,h1,h2,h3,h4,h5,h6⟩
   have l6:=lt_of_block h6
   have e7:((pl nx A).take 7).flatten=nums nx A:=by rw [←pl_nums];rfl
   rw [e7] at h2
   have hl:=own_list h2
   have hn0:0 < n:=by rw [←hl];simp [nums]
   refine ⟨⟨v,rfl⟩,h6,v2,n,row_putObj h1 (by omega),ownsRow_mod h2 ((Mod.refl (One (w2.heap.size+1)) V).setObj (r:=w2.heap.size+1) (.inr rfl) _) (fun b hb e=> ?_),hn0,mod_putObj h4 (.inl (by omega)),heap_putObj h5 (by omega)⟩
   have:=(h2.lt b hb).1
   have:b=w2.heap.size+1:=e
   omega
 case hk=>
  rintro W' ⟨v,n,S0,so,hn0,sm,sd⟩
  obtain ⟨g,c,rfl,hg1,hg2⟩:=own_pos so hn0
  have c0:=S0.cL 0 _ (by omega) rfl
  gi_wp2
  refine ⟨by simp, .inl ⟨_,_,rfl,run_takeDeferred sd, ?_⟩⟩
  refine ⟨_,results_tmp2 rfl _ _ _,_,rfl,PAt.of (ownsRow_mod so ((Mod.refl (One w2.heap.size) W').setObj (r:=w2.heap.size) (.inr rfl) _) (fun b hb e=> ?_)) hn0 (own_list so), ?_⟩
  ·have:=(so.lt b hb).1
   have:b=w2.heap.size:=e
   omega
  ·refine mod_putObj (Mod.trans mw sm (fun b hb e=> ?_)) (.inl (by have:=mw.size;omega))
   have:b=ob:=e
   omega
end Go.Q
namespace Go.Q
open Go.RowKit Go.Proofs
attribute [local go_sem] Oper.semAt_some
theorem Tryz.infoU8:(Tryz.prog.info? 5).map (fun i=> (i.zero,i.size,i.bytes))=some (some (.int .u8 0),1,1):=by kernel_rfl
def bl (l:List Nat):List Value:=l.map fun (x:Nat)=> .int .u8 (x:Int)
theorem bl_append (l m:List Nat):bl (l++m)=bl l++bl m:=by simp [bl]
theorem bl_len (l:List Nat):(bl l).length=l.length:=by simp [bl]
theorem bl_one (l:List Nat):∀ u∈bl l,u.oneCell' =true:=by
 intro u hu
 obtain ⟨x,_,rfl⟩:=List.mem_map.1 hu
 rfl
def vby (x:Nat):Nat:=if x < 128 then x else x % 128+128
def vrs (x:Nat):List Nat:=if x < 128 then [] else vb (x / 128)
theorem vb_split (x:Nat):vb x=vby x::vrs x:=by
 unfold vby vrs
 split
 ·rename_i h;rw [vb_small h]
 ·rename_i h;rw [vb_big (by omega)]
theorem u64_and127 (x:Nat) (h:x < 18446744073709551616):bits .and .u64 (x:Int) 127=((x % 128:Nat):Int):=by
 have:=bits_mask .u64 64 (by decide) wraps_u64 7 (by decide) (x:Int) (by omega) (by omega)
 rw [show ((2:Int) ^ 7 - 1)=127 from rfl] at this
 rw [this];omega
theorem u8_or128' (x:Nat) (h:x < 128):bits .or .u8 (x:Int) 128=((x+128:Nat):Int):=by
 rw [Lib.u8_or128_any _ (by omega) (by omega)];omega
def natAt (w:World) (b:Nat):Nat:=match w.cell? ⟨b,0,none⟩ with|some (.int _ x)=> x.toNat|_=> 0
theorem groups_ok (x:Nat) (w:World):Calls Tryz.prog 238 #[.int .u64 x] w fun e w' => e= .returned (.func (.func 275) #[] #[ptr w.heap.size])∧w' =w.alloc (.cells #[.int .u64 x] 37):=by
 have hmf:∀ (fn:Fn) (first cap:Array Value) (w:World),(Instr.makeFunc fn first cap).run Tryz.prog w= .ok (.func fn first cap) w:=fun _ _ _ _=> rfl
 go_enter Tryz.func238,Tryz.ntmps238
 go_wp2
 go_ret
 exact ⟨rfl,rfl⟩
set_option maxRecDepth 100000 in
theorem groups1_walk (l xb x0:Nat) (I P:Nat→World→Prop) (w:World)
  (hI:∀ x W,I x W→Row W xb 1 (fl [.int .u64 x])∧x < 18446744073709551616)
  (hY:∀ x W,I x W→YieldAt FW (3 - 1) Tryz.prog l #[.int .u8 ((x:Int) % 128), .bool (decide (127 < x))] W fun e W' => e= .returned (.bool true)∧P x W')
  (hP:∀ x W,P x W→Row W xb 1 (fl [.int .u64 x]))
  (hN:∀ x W,P x W→127 < x→I (x / 128) (W.setCell ⟨xb,0,none⟩ (.int .u64 ((x:Int) / 128))))
  (h0:I x0 w):CallsIn FW 3 Tryz.prog 275 #[.func (.yield l) #[] #[],ptr xb] w fun e w' => (∃ v,e= .returned v)∧∃ x,x < 128∧P x w' :=by
 have HH:=Lib.hid (And.intro hI (And.intro hY (And.intro hP hN)))
 clear hI hY hP hN
 refine callsIn_of_wp Tryz.func275 rfl trivial ?_ rfl
 simp only [Tryz.ntmps275,List.size_toArray,List.length_cons,List.length_nil,Nat.reduceAdd,Nat.reduceSub,Array.replicate_succ,Array.replicate_zero,List.push_toArray,List.append_toArray,List.nil_append,List.cons_append]
 gi_wp2
 gi_loopw [] (fun wr=> ∃ x:Nat,I x wr) (fun wr=> natAt wr xb)
 case atStart=> exact ⟨x0,h0⟩
 case round=>
  obtain ⟨wk,rfl⟩:∃ W,W=wr:=⟨wr,rfl⟩
  obtain ⟨x,hI⟩:=hrel
  obtain ⟨R,hx⟩:=HH.out.1 x wk hI
  have c0:=R.cL 0 _ (by omega) rfl
  have hb:=u64_and127 x hx
  have hw:IntKind.u8.wrap ((x % 128:Nat):Int)=((x % 128:Nat):Int):=by rw [IntKind.wrap_u8];omega
  have H1:=HH.out.2.1 x wk hI
  by_cases h:127 < x
  ·rw [show decide (127 < x)=true from by simp [h]] at H1
   obtain ⟨fn,tmps,assign,body,hy,hR⟩:=H1
   have h1:(127:Int) < x:=by omega
   gi_wp2_with fail
   refine hR.mono ?_
   rintro e w3 ⟨rfl,hp⟩
   have R3:=HH.out.2.2.1 x w3 hp
   have lR3:=R3.lt
   have c3:=R3.cL 0 _ (by omega) rfl
   have z3:=R3.free 0
   have hn:=HH.out.2.2.2 x w3 hp h
   have hR4:=(HH.out.1 _ _ hn).1
   have HN:=Lib.hid (And.intro hn (And.intro hR4 h))
   have HX:=Lib.hid (hR4.cL 0 _ (by omega) rfl)
   have HC:=Lib.hid c0
   clear hn hR4 hI R c0 hy hR h
   gi_wp2
   refine ⟨⟨x / 128,HN.out.1⟩, ?_⟩
   have n1:natAt wk xb=x:=by unfold natAt;rw [HC.out];simp
   have n2:natAt (w3.setCell ⟨xb,0,none⟩ (.int .u64 ((x:Int) / 128))) xb=x / 128:=by unfold natAt;rw [HX.out];simp;omega
   rw [n1,n2]
   have:=HN.out.2.2
   omega
  ·rw [show decide (127 < x)=false from by simp;omega] at H1
   obtain ⟨fn,tmps,assign,body,hy,hR⟩:=H1
   have h1:(x:Int)≤127:=by omega
   have d1:decide ((127:Int) < x)=false:=by simp;omega
   gi_wp2_with fail
   refine hR.mono ?_
   rintro e w3 ⟨rfl,hp⟩
   have R3:=HH.out.2.2.1 x w3 hp
   have c3:=R3.cL 0 _ (by omega) rfl
   gi_wp2
   go_end0
   exact ⟨⟨_,rfl⟩,x,by omega,hp⟩
set_option maxRecDepth 100000 in
set_option maxHeartbeats 2000000 in
theorem put_ok' (w:World) (base n:Nat) (v:Value) (xs:List Value) (x:Nat) (hx:x < 18446744073709551616) (hO:w.ownsRow base 5 1 v n xs) (hB:base≤w.heap.size) (hn:n≤900000000):
  Calls Tryz.prog 179 #[v, .int .u64 x] w fun e w' => ∃ v' n',e= .returned v' ∧w'.ownsRow base 5 1 v' n' (xs++bl (vb x))∧Mod (fun b=> v.ownBlock=some b) w w' :=by
 obtain ⟨vo0,vc0,rfl⟩:=own_slice hO
 have hlx:xs.length=n * 1:=hO.1
 have h10:=vb_len64 hx
 have HH:=Lib.hid (And.intro hO (And.intro hn (And.intro hlx h10)))
 clear hO hn hlx h10
 refine (callsIn_wide (n:=4)).1 ?_
 refine callsIn_of_wp_marks Tryz.func179 rfl trivial ?_ rfl
 simp only [Tryz.ntmps179,List.size_toArray,List.length_cons,List.length_nil,Nat.reduceAdd,Nat.reduceSub,Array.replicate_succ,Array.replicate_zero,List.push_toArray,List.append_toArray,List.nil_append,List.cons_append]
 gi_wp2_with fail
 have hc1:=(callsIn_wide (n:=3)).2 (groups_ok x (w.alloc (.cells #[.slice vo0 n vc0] 32)))
 refine ⟨trivial,CallsIn.mono hc1 ?_⟩
 rintro e w2 ⟨rfl,rfl⟩
 clear hc1
 gi_wp2_with fail
 refine wpIn_world (fun W=> W.heap.size=w.heap.size+2∧Mod No w W∧Row W w.heap.size 1 (fl [.slice vo0 n vc0])∧Row W (w.heap.size+1) 1 (fl [.int .u64 x])∧W.ownsRow base 5 1 (.slice vo0 n vc0) n xs) ⟨by simp,((Mod.refl No w).alloc _).alloc _,(row_one _ _ _ _ rfl).alloc _,row_one _ _ _ _ (by simp),(HH.out.1.alloc _).alloc _⟩ ?_
 rintro w2 ⟨hz,mw,RO,RX,hO2⟩
 have HZ:=Lib.hid hz
 have hz1:w.heap.size+2≤w2.heap.size:=by omega
 have hz2:w2.heap.size≤w.heap.size+2:=by omega
 clear hz
 refine wpIn_range (gf:=275) (cap:= #[ptr (w.heap.size+1)]) rfl (enters_of Tryz.func275 (by kernel_rfl) rfl)
  (fun W' => ∃ v n',Row W' w.heap.size 1 (fl [v])∧W'.ownsRow base 5 1 v n' (xs++bl (vb x))∧(∀ b,v.ownBlock=some b→((Value.slice vo0 n vc0).ownBlock=some b∧b < w.heap.size)∨w2.heap.size+2≤b)∧Mod (fun b=> (Value.slice vo0 n vc0).ownBlock=some b∨b=w.heap.size∨b=w.heap.size+1) w2 W' ∧W'.heap[w2.heap.size]? =some (.deferred (some []))) ?h ?hk
 case h=>
  intro fn
  generalize hrec:loopRec fn _ _ _ _ w2.heap.size=rec
  obtain ⟨tgt,htgt⟩:∃ tgt,tgt=xs++bl (vb x):=⟨_,rfl⟩
  rw [←htgt]
  have hat0:∀ b,(Value.slice vo0 n vc0).ownBlock=some b→((Value.slice vo0 n vc0).ownBlock=some b∧b < w.heap.size)∨w2.heap.size+2≤b:=fun b hb=> .inl ⟨hb,(HH.out.1.lt b hb).2⟩
  have htl:tgt.length≤900000010:=by rw [htgt,List.length_append,bl_len];have:=HH.out;omega
  have HT:=Lib.hid (And.intro htgt htl)
  clear htgt htl
  refine (groups1_walk (w2.heap.size+1) (w.heap.size+1) x
   (fun xx V=> ∃ v m ys,Row V w.heap.size 1 (fl [v])∧Row V (w.heap.size+1) 1 (fl [.int .u64 xx])∧V.ownsRow base 5 1 v m ys∧ys++bl (vb xx)=tgt∧xx < 18446744073709551616∧(∀ b,v.ownBlock=some b→((Value.slice vo0 n vc0).ownBlock=some b∧b < w.heap.size)∨w2.heap.size+2≤b)∧Mod (fun b=> (Value.slice vo0 n vc0).ownBlock=some b∨b=w.heap.size∨b=w.heap.size+1) w2 V∧V.heap[w2.heap.size]? =some (.deferred (some []))∧V.heap[w2.heap.size+1]? =some (rec .ready))
   (fun xx V=> ∃ v m ys,Row V w.heap.size 1 (fl [v])∧Row V (w.heap.size+1) 1 (fl [.int .u64 xx])∧V.ownsRow base 5 1 v m ys∧ys++bl (vrs xx)=tgt∧xx < 18446744073709551616∧(∀ b,v.ownBlock=some b→((Value.slice vo0 n vc0).ownBlock=some b∧b < w.heap.size)∨w2.heap.size+2≤b)∧Mod (fun b=> (Value.slice vo0 n vc0).ownBlock=some b∨b=w.heap.size∨b=w.heap.size+1) w2 V∧V.heap[w2.heap.size]? =some (.deferred (some []))∧V.heap[w2.heap.size+1]? =some (rec .ready))
   _ ?_ ?_ ?_ ?_ ⟨.slice vo0 n vc0,n,xs,(RO.alloc _).alloc _,(RX.alloc _).alloc _,(hO2.alloc _).alloc _,HT.out.1.symm,hx,hat0,((Mod.refl _ w2).alloc _).alloc _, ?_, ?_⟩).mono ?_
  ·rintro xx V ⟨v,m,ys,h1,h2,h3,h4,h5,h6,h7,h8,h9⟩
   exact ⟨h2,h5⟩
  ·rintro xx V ⟨v,m,ys,h1,h2,h3,h4,h5,h6,h7,h8,h9⟩
   have hym:ys.length=m * 1:=h3.1
   have hyt:ys.length+(vb xx).length=tgt.length:=by rw [←h4,List.length_append,bl_len]
   have hm9:m+1≤1000000000:=by have:=HT.out.2;omega
   have lV:=h1.lt
   have l9:=Lib.hid (lt_of_block h9)
   have lz:=h7.size
   rw [←hrec] at h9
   have HR:=Lib.hid hrec;clear hrec
   obtain ⟨vo,vc,rfl⟩:=own_slice h3
   refine (yield_round h9 _ rfl (fun V' => ∃ v m ys,Row V' w.heap.size 1 (fl [v])∧Row V' (w.heap.size+1) 1 (fl [.int .u64 xx])∧V'.ownsRow base 5 1 v m ys∧ys++bl (vrs xx)=tgt∧xx < 18446744073709551616∧(∀ b,v.ownBlock=some b→((Value.slice vo0 n vc0).ownBlock=some b∧b < w.heap.size)∨w2.heap.size+2≤b)∧Mod (fun b=> (Value.slice vo0 n vc0).ownBlock=some b∨b=w.heap.size∨b=w.heap.size+1) w2 V' ∧V'.heap[w2.heap.size]? =some (.deferred (some []))∧V'.heap[w2.heap.size+1]? =some (rec .ready)) ?_).mono (fun e V' h=> h)
   have H9:=Lib.hid h9;clear h9
   gi_wp2
   have h9:=H9.out
   refine ⟨h9, ?_⟩
   have ngo:∀ b,(Value.slice vo m vc).ownBlock=some b→¬One (w2.heap.size+1) b:=fun b hb e=> by have:b=w2.heap.size+1:=e;rcases h6 b hb with h|h <;> omega
   have l9' :=l9.out
   refine wpIn_world (fun U=> Row U w.heap.size 1 (fl [.slice vo m vc])∧Row U (w.heap.size+1) 1 (fl [.int .u64 xx])∧U.ownsRow base 5 1 (.slice vo m vc) m ys∧Mod (fun b=> (Value.slice vo0 n vc0).ownBlock=some b∨b=w.heap.size∨b=w.heap.size+1) w2 U∧U.heap[w2.heap.size]? =some (.deferred (some []))∧U.heap[w2.heap.size+1]? =some (loopRec _ _ _ _ _ _ .busy)∧V.heap.size≤U.heap.size)
    ⟨row_putObj h1 (by omega),row_putObj h2 (by omega),ownsRow_mod h3 ((Mod.refl (One (w2.heap.size+1)) _).setObj (r:=w2.heap.size+1) (.inr rfl) _) ngo,mod_putObj h7 (.inl (by omega)),heap_putObj h8 (by omega),World.putObj_heap_same l9',by simp [World.putObj]⟩ ?_
   rintro U ⟨g1,g2,g3,g4,g5,g6,g7⟩
   have c0:=g1.cL 0 _ (by omega) rfl
   have z0:=g1.free 0
   have lU:=g1.lt
   clear h9
   have nb:∀ b,w.heap.size≤b→b < w2.heap.size+2→¬(Value.slice vo m vc).ownBlock=some b:=fun b hb0 hb e=> by rcases h6 b e with h|h <;> omega
   have HN:=Lib.hid (And.intro h4 (And.intro h6 (And.intro hm9 hym)))
   clear h4 h6 hm9 hym hyt
   by_cases hx8:xx < 128
   ·have d1:decide (127 < xx)=false:=by simp;omega
    gi_wp2_with (gi_at_builtin;go_must (refine wpListIn_app_m 5 _ 1 1 Tryz.infoU8 rfl _ _ 32 rfl Tryz.underlying32 rfl (by decide) (by decide) 1 [.int .u8 ((xx:Int) % 128)] rfl (by simp [Value.oneCell']) base (.slice vo m vc) m ys _ _ rfl rfl ?_ ?_ ?_ ?_ ?_ ?_);go_must (· decide);go_must (· (simp;omega));go_must (· (have:=HN.out;omega));go_must (· (repeat first|(with_reducible exact g3)|(with_reducible refine World.ownsRow.drew ?_)|(with_reducible refine World.ownsRow.alloc ?_ _)));go_must (· exact row_one _ _ _ _ rfl);go_must (intro gt ct wA hA);go_must (have gA:=Row.mod (Row.alloc g1 _) hA.mod (nb _ (by omega) (by omega));have lA:=gA.lt;have cA:=gA.cL 0 _ (by omega) rfl;have zA:=gA.free 0))
    have mA:Mod (fun b=> (Value.slice vo m vc).ownBlock=some b) U wA:=Mod.trans ((Mod.refl _ U).alloc _) hA.mod (fun _ _ h=> h)
    have g3A:Mod (fun b=> (Value.slice vo0 n vc0).ownBlock=some b∨b=w.heap.size∨b=w.heap.size+1) w2 wA:=Mod.trans g4 mA (fun b hb h=> by rcases HN.out.2.1 b h with h|h;exact .inl h.1;omega)
    have hgt:∀ b,(Value.slice (some ⟨gt,0,none⟩) (m+1) ct).ownBlock=some b→((Value.slice vo0 n vc0).ownBlock=some b∧b < w.heap.size)∨w2.heap.size+2≤b:=fun b hb=> by
     obtain rfl:gt=b:=Option.some.inj hb
     rcases hA.at_ with h|h
     ·exact HN.out.2.1 _ h
     ·simp only [World.size_alloc] at h;exact .inr (by omega)
    refine ⟨heap_setCell (mA.heap g6 (nb _ (by omega) (by omega))) (by show w.heap.size≠w2.heap.size+1;omega) _, .slice (some ⟨gt,0,none⟩) (m+1) ct,row_putObj ((gA.set (i:=0) (by omega) _).congr (fun i hi=> by obtain rfl:i=0:=(by omega);rfl)) (by omega),row_putObj ((g2.mod mA (nb _ (by omega) (by omega))).setOther (by show w.heap.size≠w.heap.size+1;omega) _) (by omega),m+1,ys++bl [vby xx], ?_, ?_,hgt,mod_putObj (g3A.setCell (p:=⟨w.heap.size,0,none⟩) (.inr (.inr (.inl rfl))) _) (.inl (by omega)),heap_putObj (heap_setCell (mA.heap g5 (nb _ (by omega) (by omega))) (by show w.heap.size≠w2.heap.size;omega) _) (by omega), ?_⟩
    ·have hO:=hA.own
     have e1: [Value.int .u8 ((xx:Int) % 128)]=bl [vby xx]:=by simp [bl,vby,hx8];omega
     rw [e1] at hO
     refine ownsRow_mod hO (S:=fun b=> b=w.heap.size∨b=w2.heap.size+1) (Mod.setObj (Mod.setCell (Mod.refl _ wA) (.inr (.inl rfl)) _) (.inr (.inr rfl)) _) (fun b hb h=> ?_)
     rcases hgt b hb with h1|h1 <;> rcases h with h|h <;> omega
    ·rw [List.append_assoc,←bl_append,List.singleton_append,←vb_split,HN.out.1]
    ·rw [←HR.out];exact World.putObj_heap_same (by have:=lt_of_block (mA.heap g6 (nb _ (by omega) (by omega)));simpa using this)
   ·have d1:decide (127 < xx)=true:=by simp;omega
    have hor:bits .or .u8 ((xx:Int) % 128) 128=(xx:Int) % 128+128:=by
     have:=u8_or128' (xx % 128) (by omega)
     rw [show ((xx % 128:Nat):Int)=(xx:Int) % 128 from by omega] at this
     rw [this];omega
    gi_wp2_with (gi_at_builtin;go_must (refine wpListIn_app_m 5 _ 1 1 Tryz.infoU8 rfl _ _ 32 rfl Tryz.underlying32 rfl (by decide) (by decide) 1 [.int .u8 ((xx:Int) % 128+128)] rfl (by simp [Value.oneCell']) base (.slice vo m vc) m ys _ _ rfl rfl ?_ ?_ ?_ ?_ ?_ ?_);go_must (· decide);go_must (· (simp;omega));go_must (· (have:=HN.out;omega));go_must (· (repeat first|(with_reducible exact g3)|(with_reducible refine World.ownsRow.drew ?_)|(with_reducible refine World.ownsRow.alloc ?_ _)));go_must (· exact row_one _ _ _ _ rfl);go_must (intro gt ct wA hA);go_must (have gA:=Row.mod (Row.alloc g1 _) hA.mod (nb _ (by omega) (by omega));have lA:=gA.lt;have cA:=gA.cL 0 _ (by omega) rfl;have zA:=gA.free 0))
    have mA:Mod (fun b=> (Value.slice vo m vc).ownBlock=some b) U wA:=Mod.trans ((Mod.refl _ U).alloc _) hA.mod (fun _ _ h=> h)
    have g3A:Mod (fun b=> (Value.slice vo0 n vc0).ownBlock=some b∨b=w.heap.size∨b=w.heap.size+1) w2 wA:=Mod.trans g4 mA (fun b hb h=> by rcases HN.out.2.1 b h with h|h;exact .inl h.1;omega)
    have hgt:∀ b,(Value.slice (some ⟨gt,0,none⟩) (m+1) ct).ownBlock=some b→((Value.slice vo0 n vc0).ownBlock=some b∧b < w.heap.size)∨w2.heap.size+2≤b:=fun b hb=> by
     obtain rfl:gt=b:=Option.some.inj hb
     rcases hA.at_ with h|h
     ·exact HN.out.2.1 _ h
     ·simp only [World.size_alloc] at h;exact .inr (by omega)
    refine ⟨heap_setCell (mA.heap g6 (nb _ (by omega) (by omega))) (by show w.heap.size≠w2.heap.size+1;omega) _, .slice (some ⟨gt,0,none⟩) (m+1) ct,row_putObj ((gA.set (i:=0) (by omega) _).congr (fun i hi=> by obtain rfl:i=0:=(by omega);rfl)) (by omega),row_putObj ((g2.mod mA (nb _ (by omega) (by omega))).setOther (by show w.heap.size≠w.heap.size+1;omega) _) (by omega),m+1,ys++bl [vby xx], ?_, ?_,hgt,mod_putObj (g3A.setCell (p:=⟨w.heap.size,0,none⟩) (.inr (.inr (.inl rfl))) _) (.inl (by omega)),heap_putObj (heap_setCell (mA.heap g5 (nb _ (by omega) (by omega))) (by show w.heap.size≠w2.heap.size;omega) _) (by omega), ?_⟩
    ·have hO:=hA.own
     have e1: [Value.int .u8 ((xx:Int) % 128+128)]=bl [vby xx]:=by simp [bl,vby,hx8]
     rw [e1] at hO
     refine ownsRow_mod hO (S:=fun b=> b=w.heap.size∨b=w2.heap.size+1) (Mod.setObj (Mod.setCell (Mod.refl _ wA) (.inr (.inl rfl)) _) (.inr (.inr rfl)) _) (fun b hb h=> ?_)
     rcases hgt b hb with h1|h1 <;> rcases h with h|h <;> omega
    ·rw [List.append_assoc,←bl_append,List.singleton_append,←vb_split,HN.out.1]
    ·rw [←HR.out];exact World.putObj_heap_same (by have:=lt_of_block (mA.heap g6 (nb _ (by omega) (by omega)));simpa using this)
  ·rintro xx V ⟨v,m,ys,h1,h2,h3,h4,h5,h6,h7,h8,h9⟩
   exact h2
  ·rintro xx V ⟨v,m,ys,h1,h2,h3,h4,h5,h6,h7,h8,h9⟩ hxx
   have l9:=lt_of_block h9
   have lz:=h7.size
   refine ⟨v,m,ys,h1.setOther (by show w.heap.size+1≠w.heap.size;omega) _, ?_,ownsRow_mod h3 ((Mod.refl (One (w.heap.size+1)) V).setCell (p:=⟨w.heap.size+1,0,none⟩) (.inr rfl) _) (fun b hb e=> ?_), ?_,by omega,h6,h7.setCell (p:=⟨w.heap.size+1,0,none⟩) (.inr (.inr (.inr rfl))) _,heap_setCell h8 (by show w.heap.size+1≠w2.heap.size;omega) _,heap_setCell h9 (by show w.heap.size+1≠w2.heap.size+1;omega) _⟩
   ·refine (h2.set (i:=0) (by omega) _).congr (fun i hi=> ?_)
    obtain rfl:i=0:=by omega
    simp [fl]
   ·have:b=w.heap.size+1:=e
    rcases h6 b hb with h|h <;> omega
   ·rw [←h4];unfold vrs;rw [if_neg (by omega)]
  ·rw [Below.heap_alloc _ _ _ (by simp)];exact World.alloc_heap_new _ _
  ·rw [←hrec];exact (by have:=World.alloc_heap_new (w2.alloc (.deferred (some [])));rw [World.size_alloc] at this;exact this _)
  ·rintro e V ⟨⟨v,rfl⟩,xx,hx8,v2,m,ys,h1,h2,h3,h4,h5,h6,h7,h8,h9⟩
   have l9:=lt_of_block h9
   have e7:ys=tgt:=by rw [←h4];unfold vrs;rw [if_pos hx8];simp [bl]
   rw [e7] at h3
   refine ⟨⟨v,rfl⟩,h9,v2,m,row_putObj h1 (by omega),ownsRow_mod h3 ((Mod.refl (One (w2.heap.size+1)) V).setObj (r:=w2.heap.size+1) (.inr rfl) _) (fun b hb e=> ?_),h6,mod_putObj h7 (.inl (by omega)),heap_putObj h8 (by omega)⟩
   have:b=w2.heap.size+1:=e
   rcases h6 b hb with h|h <;> omega
 case hk=>
  rintro W' ⟨v,n',S0,so,hat,sm,sd⟩
  obtain ⟨vo,vc,rfl⟩:=own_slice so
  have c0:=S0.cL 0 _ (by omega) rfl
  gi_wp2
  refine ⟨by simp, .inl ⟨_,_,rfl,run_takeDeferred sd, ?_⟩⟩
  refine ⟨_,results_tmp rfl _ _ _,_,_,rfl,ownsRow_mod so ((Mod.refl (One w2.heap.size) W').setObj (r:=w2.heap.size) (.inr rfl) _) (fun b hb e=> ?_), ?_⟩
  ·have:b=w2.heap.size:=e
   rcases hat b hb with h|h <;> omega
  ·refine mod_putObj (Mod.trans (mw.no _) sm (fun b hb e=> ?_)) (.inl (by omega))
   rcases e with e|e|e
   ·exact e
   ·omega
   ·omega
end Go.Q
namespace Go.Q
open Go.RowKit Go.Proofs
theorem u8_and127' (g:Nat) (h:g < 256):bits .and .u8 (g:Int) 127=((g % 128:Nat):Int):=by
 rw [u8_and127 (g:Int) (by omega) (by omega)];omega
set_option maxRecDepth 100000 in
theorem rd1_ok (bb b o n c i g:Nat) (hin:i < n) (hi:i≤9) (h9:i=9→g≤1) (h0:0 < i→g≠0) (w:World) (hb:w.cell? ⟨bb,0,none⟩=some (.slice (some ⟨b,o,none⟩) n c)) (hg:w.cell? ⟨b,o+i,none⟩=some (.int .u8 g)):
  Calls Tryz.prog 297 #[.int .i64 i,ptr bb] w fun e w' => e= .returned (.tuple #[.int .u8 g, .int .i64 0])∧w=w' :=by
 have i1:(i:Int) < n:=by omega
 by_cases hi9:i=9
 ·have hg1:=h9 hi9
  subst hi9
  have g1:(g:Int)≤1:=by omega
  have g0:((g:Int)==0)=false:=by have:=h0 (by omega);simp;omega
  clear h9 h0 hg1
  go_enter Tryz.func297,Tryz.ntmps297
  go_wp2
  go_ret2
  exact ⟨rfl,rfl⟩
 ·have e9:((i:Int)==9)=false:=by simp;omega
  by_cases h00:0 < i
  ·have j0:(0:Int) < i:=by omega
   have g0:((g:Int)==0)=false:=by have:=h0 h00;simp;omega
   clear h9 h0 hi9 h00
   go_enter Tryz.func297,Tryz.ntmps297
   go_wp2
   go_ret2
   exact ⟨rfl,rfl⟩
  ·have j0:(i:Int)≤0:=by omega
   clear h9 h0 hi9 h00
   go_enter Tryz.func297,Tryz.ntmps297
   go_wp2
   go_ret2
   exact ⟨rfl,rfl⟩
set_option maxRecDepth 100000 in
set_option maxHeartbeats 1000000 in
theorem read_ok (b o n c X:Nat) (hX:X < 18446744073709551616) (hn:(vb X).length≤n) (w:World) (hc:∀ i,i < (vb X).length→w.cell? ⟨b,o+i,none⟩=some (.int .u8 ((vb X).getD i 0:Nat))):
  Calls Tryz.prog 276 #[.slice (some ⟨b,o,none⟩) n c] w fun e w' => e= .returned (.tuple #[.int .u64 X, .int .i64 (vb X).length, .int .i64 0])∧Below w.heap.size w w' :=by
 have hmf:∀ (fn:Fn) (first cap:Array Value) (w:World),(Instr.makeFunc fn first cap).run Tryz.prog w= .ok (.func fn first cap) w:=fun _ _ _ _=> rfl
 have hL:=vb_len64 hX
 have hp:=vb_pos X
 have HH:=Lib.hid (And.intro hX (And.intro hn (And.intro hc (And.intro hL hp))))
 clear hX hn hc hL hp
 go_enter Tryz.func276,Tryz.ntmps276
 go_wp2
 go_loopw [5,7] (fun s5 s7 wr=> ∃ i x:Nat,s5= .int .u64 x∧s7= .int .i64 i∧i < (vb X).length∧x=X % 128 ^ i∧wr=w.alloc (.cells #[.slice (some ⟨b,o,none⟩) n c] 32)) (fun _ s7 _=> 10 - (RowKit.intOf s7).toNat)
 case atStart=> exact ⟨0,0,rfl,rfl,HH.out.2.2.2.2,by simp [Nat.mod_one],rfl⟩
 case round=>
  obtain ⟨i,x,rfl,rfl,hi,hx,rfl⟩:=hrel
  obtain ⟨h1,h2,h3⟩:=vb_get hi
  have hin:i < n:=by have:=HH.out.2.1;omega
  have hi9:i≤9:=by have:=HH.out.2.2.2.1;omega
  obtain ⟨g,hg⟩:∃ g,g=(vb X).getD i 0:=⟨_,rfl⟩
  have hcell:=HH.out.2.2.1 i hi
  rw [←hg] at hcell h1
  have hd:X / 128 ^ i < 128∨128≤X / 128 ^ i:=by omega
  have hg256:g < 256:=by rw [h1];split <;> omega
  have hg9:i=9→g≤1:=by
   intro e
   have h9:¬(i+1 < (vb X).length):=by have:=HH.out.2.2.2.1;omega
   rw [h1,if_neg h9,e]
   have:=HH.out.1
   have:X / 128 ^ 9 < 2:=Nat.div_lt_of_lt_mul (by omega)
   omega
  have hg0:0 < i→g≠0:=by
   intro e
   have:=h3 e
   rw [h1]
   split
   ·omega
   ·rename_i hh
    have:¬128≤X / 128 ^ i:=fun h=> hh (h2.2 h)
    omega
  obtain ⟨m,hm⟩:∃ m,m=X / 128 ^ i % 128:=⟨_,rfl⟩
  have hgm:g % 128=m:=by rw [h1,hm];split <;> omega
  have hm128:m < 128:=by omega
  have a1:bits .and .u8 (g:Int) 127=(m:Int):=by rw [u8_and127' g hg256,hgm]
  have a2:IntKind.u64.wrap (m:Int)=m:=by rw [IntKind.wrap_u64];omega
  obtain ⟨q,hq⟩:∃ q,q=X % 128 ^ (i+1):=⟨_,rfl⟩
  have ho:=or_step X i HH.out.1 (by omega)
  rw [←hm,←hx,←hq] at ho
  have HI:=Lib.hid (And.intro hi (And.intro h1 (And.intro h2 (And.intro hm (And.intro hx hq)))))
  have HG:=Lib.hid (And.intro hg9 hg0)
  have i9:(i:Int)≤9:=by omega
  clear hi h1 h2 h3 hm hx hq hg hd hg9 hg0 hgm
  go_wp2_with fail
  refine (rd1_ok w.heap.size b o n c i g hin hi9 HG.out.1 HG.out.2 _ (by simp) (Lib.cell?_alloc_marked _ hcell)).mono ?_;rintro e w1 ⟨rfl,rfl⟩
  clear hcell
  go_upto_region 9 with fail
  by_cases hl:i+1 < (vb X).length
  ·have hg128:128≤g:=by have:=HI.out.2.1;rw [if_pos hl] at this;omega
   have d1:(128:Int)≤g:=by omega
   have HL:=Lib.hid hl
   clear hl hg128
   go_wp2
   exact ⟨⟨i+1,q,rfl,by go_num,HL.out,HI.out.2.2.2.2.2,trivial⟩,by simp only [RowKit.intOf];omega⟩
  ·have hg128:g < 128:=by have:=HI.out.2.1;rw [if_neg hl] at this;omega
   have d1:(g:Int) < 128:=by omega
   have hLe:(vb X).length=i+1:=by have:=HI.out.1;omega
   have hqX:q=X:=by
    rw [HI.out.2.2.2.2.2]
    exact Nat.mod_eq_of_lt (by have:=vb_last _ hLe;exact this)
   have HL:=Lib.hid (And.intro hLe hqX)
   clear hl hg128 hLe hqX
   go_wp2
   go_ret3
   refine ⟨?_,belowX⟩
   rw [HL.out.1,HL.out.2]
   rfl
end Go.Q
namespace Go.Q
open Go.RowKit Go.Proofs
theorem vbs_take (L:List Nat) (k:Nat) (hk:k < L.length):vbs (L.take (k+1))=vbs (L.take k)++vb (L[k]):=by
 rw [List.take_succ_eq_append_getElem hk,vbs_append]
 simp [vbs]
set_option maxRecDepth 100000 in
theorem writeAll_ok (g c:Nat) (L:List Nat) (hL:∀ x∈L,x < 18446744073709551616) (hlen:L.length≤60000) (w:World) (R:Row w g (L.length * 1) (fl (ul L))):
  Calls Tryz.prog 95 #[slc g L.length c] w fun e w' => ∃ v n,e= .returned v∧w'.ownsRow w.heap.size 5 1 v n (bl (vbs L))∧Mod No w w' :=by
 have HL:=Lib.hid (And.intro hL hlen)
 clear hL hlen
 go_enter Tryz.func95,Tryz.ntmps95
 go_wp2
 go_loopw [8,3] (fun s8 s3 wr=> ∃ k n:Nat,s8= .int .i64 k∧k≤L.length∧wr.ownsRow w.heap.size 5 1 s3 n (bl (vbs (L.take k)))∧Mod No w wr) (fun s8 _ _=> L.length - (RowKit.intOf s8).toNat)
 case atStart=> exact ⟨0,0,rfl,by omega,World.ownsRow_nil _ _ _ _,Mod.refl _ _⟩
 case round=>
  obtain ⟨wk,rfl⟩:∃ W,W=wr:=⟨wr,rfl⟩
  obtain ⟨k,n,rfl,hk,hO,hm⟩:=hrel
  by_cases hkn:k < L.length
  ·have i1:(k:Int) < L.length:=by omega
   have hkm:(vbs (L.take k)).length≤10 * k:=by
    have:=vbs_le (L.take k) (fun x hx=> HL.out.1 x (List.mem_of_mem_take hx))
    rw [List.length_take] at this
    omega
   have hlx:(bl (vbs (L.take k))).length=n * 1:=hO.1
   rw [bl_len] at hlx
   have hnb:n≤900000000:=by have:=HL.out.2;omega
   have HN:=Lib.hid hnb
   have hwk:IntKind.i64.wrap ((k:Int)+1)=(k:Int)+1:=by have:=HL.out.2;rw [IntKind.wrap_i64];omega
   clear hkm hlx hnb
   obtain ⟨x,hx⟩:∃ x,x=L[k]:=⟨_,rfl⟩
   have hx64:x < 18446744073709551616:=by rw [hx];exact HL.out.1 _ (List.getElem_mem hkn)
   have HX:=Lib.hid (And.intro hx64 hx)
   have R1:=R.mod hm (fun h=> h)
   have c0:wk.cell? ⟨g,k,none⟩=some (.int .u64 x):=by
    rw [R1.cell (by omega),hx]
    unfold fl ul
    rw [List.getD_eq_getElem?_getD,List.getElem?_map,List.getElem?_eq_getElem hkn]
    rfl
   clear hx64 hx
   have lz:=hm.size
   obtain ⟨vo,vc,rfl⟩:=own_slice hO
   go_wp2_with fail
   refine (put_ok' wk w.heap.size n (.slice vo n vc) _ x HX.out.1 hO lz HN.out).mono ?_;rintro e w1 ⟨v',n',rfl,hO1,m1⟩
   obtain ⟨vo1,vc1,rfl⟩:=own_slice hO1
   have mm:Mod No w w1:=Mod.trans hm m1 (fun b hb h=> by have:=(hO.lt b h).1;omega)
   rw [HX.out.2,←bl_append,←vbs_take L k hkn] at hO1
   go_wp2
   refine ⟨⟨k+1,n',by go_num,by omega,hO1,mm⟩,by simp only [RowKit.intOf];omega⟩
  ·obtain rfl:k=L.length:=by omega
   have i1:(L.length:Int)≤L.length:=by omega
   rw [List.take_length] at hO
   go_wp2
   go_ret
   exact ⟨_,_,rfl,hO,hm⟩
end Go.Q
