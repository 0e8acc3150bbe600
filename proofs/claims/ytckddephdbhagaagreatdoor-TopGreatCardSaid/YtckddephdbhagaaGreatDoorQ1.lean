/- A part of the proof that TopGreat answers true: what some of the functions on its road compute. -/
import Derived.RangeFuncNested
import Derived.RangeFuncBound
import Derived.RangeFuncCalls
import Derived.RangeFuncLeaves
import Derived.Shelf.Abstract
import Derived.Shelf.RegionOpen
import Derived.OwnWalkIn
import Derived.TacticsInMore
import Derived.LoopNIn
import Derived.LoopIn
import Derived.BigFrameIn
import Derived.Test.YtckddephdbhagaaGreatDoorQ0
set_option linter.unusedVariables false
set_option linter.unusedSimpArgs false
namespace Go.Q
open Go.RowKit Go.Proofs
set_option maxRecDepth 100000 in
theorem lay_spec (h ib pb:Nat) (len cap:Nat) (i:Nat) (iv:Int) (hiv:iv=(i:Int)) (n:Int) (id key:Int) (F:Nat→Value) (pl:List (Int×Value)) (w:World)
  (hr:Row w h 3 (f3 (.slice (some ⟨ib,0,none⟩) len cap) (.map (some pb)) (.int .i64 n))) (hi:i < len) (hib:Row w ib (len * 2) F) (hp:IMap w .i64 pb pl)
  (d1:h≠ib) (d2:ib≠pb) (d3:h≠pb):
  Calls Tryz.prog 322 #[.pointer (some ⟨h,0,none⟩), .int .i64 iv, .agg #[.int .i64 id, .int .u64 key]] w fun e w' => e= .returned (.tuple #[])∧Mod (fun b=> b=ib∨b=pb) w w' ∧
   Row w' ib (len * 2) (fun j=> if j=i * 2+1 then .int .u64 key else if j=i * 2 then .int .i64 id else F j)∧IMap w' .i64 pb (pt pl id (.int .i64 iv)):=by
 subst hiv
 have c0:=hr.cell (i:=0) (by omega)
 have c1:=hr.cell (i:=1) (by omega)
 have e0:=hib.cell (i:=i * 2) (by omega)
 have e1:=hib.cell (i:=i * 2+1) (by omega)
 have z0:=hib.free (i * 2)
 have z1:=hib.free (i * 2+1)
 have l0:=hr.lt
 have l1:=hib.lt
 have l2:=hp.lt
 simp only [f3] at c0 c1
 have k0:(0:Int)≤(i:Int):=by omega
 have k1:(i:Int) < (len:Int):=by omega
 have d1' :=d1.symm
 have d4:ib≠w.heap.size:=by omega
 go_enter Tryz.func322,Tryz.ntmps322
 go_wp2
 go_region_held3 (fun w' => w'.cell? ⟨h,0,none⟩=some (.slice (some ⟨ib,0,none⟩) len cap)∧w'.cell? ⟨h,1,none⟩=some (.map (some pb))∧w'.cell? ⟨w.heap.size,0,none⟩=some (.int .i64 id)∧w'.cell? ⟨w.heap.size,1,none⟩=some (.int .u64 key)) ((repeat' apply And.intro) <;> go_simp) (fail)
 go_wp2
 refine wp_region_tail 7 (by kernel_rfl) (by kernel_rfl) ?_
 simp only [List.take_succ_cons,List.take_zero,List.drop_succ_cons,List.drop_zero]
 repeat still_step
 refine wpStill_nil ?_
 refine wpList_mapUpdate rfl _ _ _ _ rfl _ _ Tryz.underlying325 Tryz.underlying3 (q:= .i64) (b:=pb) (l:=pl) (((hp.setCell _ _).setCell _ _).alloc _) id (.int .i64 i) rfl rfl rfl ?_
 intro w1 h1 h2
 go_wp2
 go_end0
 have hm:Mod (fun b=> b=ib∨b=pb) w w1:=by
  refine Mod.trans ?_ h1.mod (fun b _ hb=> .inr hb)
  exact (((((Mod.refl _ w).setCell (p:=⟨ib,i * 2,none⟩) (.inr (.inl rfl)) _).setCell (p:=⟨ib,i * 2+1,none⟩) (.inr (.inl rfl)) _).alloc _).drew).drew
 refine ⟨rfl,hm, ?_,h2⟩
 exact Row.mod (((((hib.set (i:=i * 2) (by omega) _).set (i:=i * 2+1) (by omega) _).alloc _).drew).drew) h1.mod d2
set_option maxRecDepth 100000 in
theorem settle_one (h ib pb:Nat) (cap:Nat) (n:Int) (id key:Int) (pl:List (Int×Value)) (w:World)
  (hr:Row w h 3 (f3 (.slice (some ⟨ib,0,none⟩) 1 cap) (.map (some pb)) (.int .i64 n))) (hib:Row w ib 2 (f2 (.int .i64 id) (.int .u64 key))) (hp:IMap w .i64 pb pl)
  (d1:h≠ib) (d2:ib≠pb) (d3:h≠pb):
  Calls Tryz.prog 308 #[.pointer (some ⟨h,0,none⟩), .int .i64 0] w fun e w' => e= .returned (.tuple #[])∧Mod (fun b=> b=ib∨b=pb) w w' ∧
   Row w' ib 2 (f2 (.int .i64 id) (.int .u64 key))∧IMap w' .i64 pb (pt pl id (.int .i64 0)):=by
 have c0:=hr.cell (i:=0) (by omega)
 have e0:=hib.cell (i:=0) (by omega)
 have e1:=hib.cell (i:=1) (by omega)
 have l0:=hr.lt
 have l1:=hib.lt
 have l2:=hp.lt
 simp only [f3,f2] at c0 e0 e1
 go_enter Tryz.func308,Tryz.ntmps308
 go_step3
 go_wp2
 apply wp_label
 go_wp2
 go_quiet (fail)
 go_wp2
 apply wp_label
 go_wp2
 go_quiet (fail)
 go_wp2
 go_quiet (fail)
 go_wp2_with fail
 refine (lay_spec h ib pb 1 cap 0 0 rfl n id key _ pl _ ((hr.alloc _).drewN _) (by omega) ((hib.alloc _).drewN _) ((hp.alloc _).drewN _) d1 d2 d3).mono ?_
 rintro e w1 ⟨rfl,hm,hrow,hmap⟩
 go_wp2
 rw [Exit.noGoto_normal]
 go_end0
 refine ⟨rfl, ?_,hrow.congr (fun j hj=> ?_),hmap⟩
 ·exact Mod.trans (((Mod.refl _ w).alloc _).drewN _) hm (fun b _ hb=> hb)
 ·obtain rfl|rfl:j=0∨j=1:=(by omega)
  ·rfl
  ·rfl
structure HEmpty (w:World) (h pb:Nat) (n:Int):Prop where
 row:Row w h 3 (f3 (.slice none 0 0) (.map (some pb)) (.int .i64 n))
 map:IMap w .i64 pb []
 d:h≠pb
structure HOne (w:World) (h pb ib:Nat) (n id key:Int):Prop where
 row:∃ cap,Row w h 3 (f3 (.slice (some ⟨ib,0,none⟩) 1 cap) (.map (some pb)) (.int .i64 n))
 items:Row w ib 2 (f2 (.int .i64 id) (.int .u64 key))
 map:IMap w .i64 pb [(id, .int .i64 0)]
 d1:h≠ib
 d2:ib≠pb
 d3:h≠pb
theorem Tryz.infoItem:(Tryz.prog.info? 415).map (fun i=> (i.zero,i.size,i.bytes))=some (some (.agg #[.int .i64 0, .int .u64 0]),2,16):=by kernel_rfl
set_option maxRecDepth 100000 in
theorem put_empty (h pb:Nat) (n id key:Int) (hn:0 < n) (h0:0≤id) (h1:id < n) (w:World) (hh:HEmpty w h pb n):
  Calls Tryz.prog 282 #[.pointer (some ⟨h,0,none⟩), .int .i64 id, .int .u64 key] w fun e w' => e= .returned (.int .i64 0)∧
   ∃ ib,w.heap.size≤ib∧ib < w'.heap.size∧HOne w' h pb ib n id key∧Mod (fun b=> b=h∨b=pb) w w' :=by
 obtain ⟨hr,hp,d⟩:=hh
 obtain ⟨i0,hi,hz0,hz1,hz2⟩:=info_parts Tryz.infoItem
 have c0:=hr.cell (i:=0) (by omega)
 have z0:=hr.free 0
 have l0:=hr.lt
 have l2:=hp.lt
 simp only [f3] at c0
 go_enter Tryz.func282,Tryz.ntmps282
 go_wp2_with fail
 refine (heapFind_miss h pb n id _ [] hn h0 h1 w hr hp rfl).mono ?_;rintro e w' ⟨rfl,rfl⟩
 go_wp2_with (at_builtin;go_must (refine wpList_app_nil rfl _ _ 326 rfl 415 i0 (.agg #[.int .i64 0, .int .u64 0]) 2 16 Tryz.underlying326 hi hz0 hz1 hz2 rfl (by decide) (by decide) [.int .i64 id, .int .u64 key] _ rfl (by simp [Value.oneCell']) rfl rfl ?_);intro g cap w1 g1 g2 g3 hown hm hc hf)
 have hm0:Mod No w w1:=hm
 have hm1:Mod (fun b=> b=h∨b=pb) w (w1.setCell ⟨h,0,none⟩ (.slice (some ⟨g,0,none⟩) 1 cap)):=(hm.mono (fun _ _ x=> x.elim)).setCell (.inr (.inl rfl)) _
 have r1:Row w1 g 2 (f2 (.int .i64 id) (.int .u64 key)):=(own_row hown).congr (fun i hi=> by
  obtain rfl|rfl:i=0∨i=1:=(by omega)
  ·rfl
  ·rfl)
 refine (settle_one h g pb cap n id key [] _ (((hr.mod hm (fun x=> x)).set (i:=0) (by omega) _).congr (fun i hi=> ?_)) (r1.setOther (by simp;omega) _) ((hp.mod hm (fun x=> x)).setCell _ _) (by omega) (by omega) d).mono ?_
 ·obtain rfl|rfl|rfl:i=0∨i=1∨i=2:=(by omega)
  ·rfl
  ·rfl
  ·rfl
 rintro e w2 ⟨rfl,hm2,hrow,hmap⟩
 go_wp2
 go_ret
 have hsz:=hm2.size
 simp only [World.size_setCell] at hsz
 refine ⟨rfl,g,by omega,by omega,⟨⟨cap, ?_⟩,hrow,hmap,by omega,by omega,d⟩,hm1.trans hm2 ?_⟩
 ·exact (((hr.mod hm (fun x=> x)).set (i:=0) (by omega) _).congr (fun i hi=> by
   obtain rfl|rfl|rfl:i=0∨i=1∨i=2:=(by omega)
   ·rfl
   ·rfl
   ·rfl)).mod hm2 (by omega)
 ·intro b hb hbb
  rcases hbb with rfl|rfl
  ·omega
  ·exact .inr rfl
theorem heapLeast_one (h pb ib:Nat) (n id key:Int) (w:World) (hh:HOne w h pb ib n id key):
  Calls Tryz.prog 309 #[.pointer (some ⟨h,0,none⟩)] w fun e w' => e= .returned (.tuple #[.agg #[.int .i64 id, .int .u64 key], .bool true])∧Below w.heap.size w w' :=by
 obtain ⟨cap,hr⟩:=hh.row
 have c0:=hr.cell (i:=0) (by omega)
 have e0:=hh.items.cell (i:=0) (by omega)
 have e1:=hh.items.cell (i:=1) (by omega)
 have l0:=hr.lt
 have l1:=hh.items.lt
 simp only [f3,f2] at c0 e0 e1
 go_enter Tryz.func309,Tryz.ntmps309
 go_wp2
 exact bodyPost_ret (v:= .tuple #[.agg #[.int .i64 id, .int .u64 key], .bool true]) (by simp [results,Tryz.results309,go_sem]) rfl ⟨rfl,belowX⟩
set_option maxRecDepth 100000 in
theorem set_one (h pb ib:Nat) (n id key key' :Int) (hn:0 < n) (h0:0≤id) (h1:id < n) (w:World) (hh:HOne w h pb ib n id key):
  Calls Tryz.prog 366 #[.pointer (some ⟨h,0,none⟩), .int .i64 id, .int .u64 key'] w fun e w' => e= .returned (.int .i64 0)∧HOne w' h pb ib n id key' ∧Mod (fun b=> b=ib∨b=pb) w w' :=by
 obtain ⟨⟨cap,hr⟩,hi,hp,d1,d2,d3⟩:=hh
 have c0:=hr.cell (i:=0) (by omega)
 have e1:=hi.cell (i:=1) (by omega)
 have z1:=hi.free 1
 have l0:=hr.lt
 have l1:=hi.lt
 simp only [f3,f2] at c0 e1
 go_enter Tryz.func366,Tryz.ntmps366
 go_wp2_with fail
 refine (heapFind_hit h pb n id _ _ 0 hn h0 h1 w hr hp (by simp [lk])).mono ?_;rintro e w' ⟨rfl,rfl⟩
 go_wp2_with fail
 refine (settle_one h ib pb cap n id key' _ _ (hr.setOther (by simp;omega) _) ((hi.set (i:=1) (by omega) _).congr (fun i hi=> ?_)) (hp.setCell _ _) d1 d2 d3).mono ?_
 ·obtain rfl|rfl:i=0∨i=1:=(by omega)
  ·rfl
  ·rfl
 rintro e w2 ⟨rfl,hm2,hrow,hmap⟩
 go_wp2
 go_ret
 refine ⟨rfl,⟨⟨cap,(hr.setOther (by simp;omega) _).mod hm2 (by omega)⟩,hrow,by simpa [pt] using hmap,d1,d2,d3⟩,Mod.trans ((Mod.refl _ w).setCell (p:=⟨ib,1,none⟩) (.inr (.inl rfl)) _) hm2 (fun b _ hb=> hb)⟩
end Go.Q
namespace Go.Q
open Go.RowKit Go.Proofs
abbrev ent (v r k:Int):Value:= .agg #[.int .u64 v, .int .u32 r, .int .u32 k]
structure QE (w:World) (q h pb eb:Nat) (n fl ld:Int):Prop where
 row:Row w q 5 (f5 (.pointer (some ⟨h,0,none⟩)) (.int .i64 n) (.map (some eb)) (.int .u64 fl) (.int .i64 ld))
 ents:IMap w .i64 eb []
 heap:HEmpty w h pb n
 d1:q≠h
 d2:q≠pb
 d3:q≠eb
 d4:h≠eb
 d5:pb≠eb
structure QO (w:World) (q h pb eb ib:Nat) (n fl ld id v r k:Int):Prop where
 row:Row w q 5 (f5 (.pointer (some ⟨h,0,none⟩)) (.int .i64 n) (.map (some eb)) (.int .u64 fl) (.int .i64 ld))
 ents:IMap w .i64 eb [(id,ent v r k)]
 heap:HOne w h pb ib n id v
 d1:q≠h
 d2:q≠pb
 d3:q≠eb
 d4:h≠eb
 d5:pb≠eb
 d6:q≠ib
 d7:eb≠ib
theorem HEmpty.mod {S:Nat→Prop} {w w' :World} {h pb:Nat} {n:Int} (x:HEmpty w h pb n) (hm:Mod S w w') (h1:¬S h) (h2:¬S pb):HEmpty w' h pb n:=⟨x.row.mod hm h1,x.map.mod hm h2,x.d⟩
theorem HOne.mod {S:Nat→Prop} {w w' :World} {h pb ib:Nat} {n id key:Int} (x:HOne w h pb ib n id key) (hm:Mod S w w') (h1:¬S h) (h2:¬S pb) (h3:¬S ib):HOne w' h pb ib n id key:=by
 obtain ⟨⟨cap,hr⟩,hi,hp,d1,d2,d3⟩:=x
 exact ⟨⟨cap,hr.mod hm h1⟩,hi.mod hm h3,hp.mod hm h2,d1,d2,d3⟩
theorem QE.mod {S:Nat→Prop} {w w' :World} {q h pb eb:Nat} {n fl ld:Int} (x:QE w q h pb eb n fl ld) (hm:Mod S w w') (h0:¬S q) (h1:¬S h) (h2:¬S pb) (h3:¬S eb):QE w' q h pb eb n fl ld:=
 ⟨x.row.mod hm h0,x.ents.mod hm h3,x.heap.mod hm h1 h2,x.d1,x.d2,x.d3,x.d4,x.d5⟩
theorem QO.mod {S:Nat→Prop} {w w' :World} {q h pb eb ib:Nat} {n fl ld id v r k:Int} (x:QO w q h pb eb ib n fl ld id v r k) (hm:Mod S w w') (h0:¬S q) (h1:¬S h) (h2:¬S pb) (h3:¬S eb) (h4:¬S ib):QO w' q h pb eb ib n fl ld id v r k:=
 ⟨x.row.mod hm h0,x.ents.mod hm h3,x.heap.mod hm h1 h2 h4,x.d1,x.d2,x.d3,x.d4,x.d5,x.d6,x.d7⟩
theorem qSome (q:Nat) (n:Int) (hn:0 < n) (w:World) (c:w.cell? ⟨q,1,none⟩=some (.int .i64 n)):Calls Tryz.prog 176 #[.pointer (some ⟨q,0,none⟩)] w fun e w' => e= .returned (.bool true)∧w=w' :=by
 go_enter Tryz.func176,Tryz.ntmps176
 go_wp2
 go_ret
 exact ⟨by simp,rfl⟩
theorem qFind_miss (q eb:Nat) (n id:Int) (v0 v3 v4:Value) (l:List (Int×Value)) (hn:0 < n) (h0:0≤id) (h1:id < n) (w:World)
  (hr:Row w q 5 (f5 v0 (.int .i64 n) (.map (some eb)) v3 v4)) (he:IMap w .i64 eb l) (hl:lk l id=none):
  Calls Tryz.prog 228 #[.pointer (some ⟨q,0,none⟩), .int .i64 id] w fun e w' => e= .returned (.tuple #[ent 0 0 0, .int .i64 6])∧Below w.heap.size w w' :=by
 obtain ⟨_,c1,c2,_,_⟩:=hr.c5
 have l0:=hr.lt
 have H:=Lib.hid hl;clear hl
 go_enter Tryz.func228,Tryz.ntmps228
 go_wp2_with fail
 refine (qSome q n hn _ (by simpa [World.cell?_alloc_lt,l0] using c1)).mono ?_;rintro e w' ⟨rfl,rfl⟩
 go_wp2_with (at_lookup;refine wpList_lookup_miss rfl _ _ _ rfl _ _ (ent 0 0 0) Tryz.underlying212 Tryz.underlying3 (q:= .i64) (Tryz.zeroValue138 _) (he.alloc _) id rfl rfl H.out ?_)
 exact bodyPost_ret (v:= .tuple #[ent 0 0 0, .int .i64 6]) (by simp [results,Tryz.results228,go_sem]) rfl ⟨rfl,belowX⟩
theorem qFind_hit (q eb:Nat) (n id:Int) (v0 v3 v4:Value) (l:List (Int×Value)) (v r k:Int) (hn:0 < n) (h0:0≤id) (h1:id < n) (w:World)
  (hr:Row w q 5 (f5 v0 (.int .i64 n) (.map (some eb)) v3 v4)) (he:IMap w .i64 eb l) (hl:lk l id=some (ent v r k)):
  Calls Tryz.prog 228 #[.pointer (some ⟨q,0,none⟩), .int .i64 id] w fun e w' => e= .returned (.tuple #[ent v r k, .int .i64 0])∧Below w.heap.size w w' :=by
 obtain ⟨_,c1,c2,_,_⟩:=hr.c5
 have l0:=hr.lt
 have H:=Lib.hid hl;clear hl
 go_enter Tryz.func228,Tryz.ntmps228
 go_wp2_with fail
 refine (qSome q n hn _ (by simpa [World.cell?_alloc_lt,l0] using c1)).mono ?_;rintro e w' ⟨rfl,rfl⟩
 go_wp2_with (at_lookup;refine wpList_lookup_hit rfl _ _ _ rfl _ _ (ent 0 0 0) _ Tryz.underlying212 Tryz.underlying3 (q:= .i64) (Tryz.zeroValue138 _) (he.alloc _) id rfl rfl H.out ?_)
 exact bodyPost_ret (v:= .tuple #[ent v r k, .int .i64 0]) (by simp [results,Tryz.results228,go_sem]) rfl ⟨rfl,belowX⟩
theorem qFloor (q:Nat) (n fl:Int) (v0 v2 v4:Value) (hn:0 < n) (w:World) (hr:Row w q 5 (f5 v0 (.int .i64 n) v2 (.int .u64 fl) v4)):
  Calls Tryz.prog 92 #[.pointer (some ⟨q,0,none⟩)] w fun e w' => e= .returned (.int .u64 fl)∧w=w' :=by
 obtain ⟨_,c1,_,c3,_⟩:=hr.c5
 go_enter Tryz.func92,Tryz.ntmps92
 go_wp2_with fail
 refine (qSome q n hn _ c1).mono ?_;rintro e w' ⟨rfl,rfl⟩
 go_wp2
 go_ret
 exact ⟨rfl,rfl⟩
theorem qRaise (q:Nat) (n fl f:Int) (v0 v2 v4:Value) (hn:0 < n) (w:World) (hr:Row w q 5 (f5 v0 (.int .i64 n) v2 (.int .u64 fl) v4)):
  Calls Tryz.prog 186 #[.pointer (some ⟨q,0,none⟩), .int .u64 f] w fun e w' => e= .returned (.int .i64 0)∧Mod (One q) w w' ∧Row w' q 5 (f5 v0 (.int .i64 n) v2 (.int .u64 (mxI fl f)) v4):=by
 obtain ⟨_,c1,_,c3,_⟩:=hr.c5
 have z3:=hr.free 3
 go_enter Tryz.func186,Tryz.ntmps186
 go_wp2_with fail
 refine (qSome q n hn _ c1).mono ?_;rintro e w' ⟨rfl,rfl⟩
 go_wp2
 all_goals (go_ret;(first|rw [mxI_lt (by assumption)]|rw [mxI_ge (by assumption)]);exact ⟨rfl,(Mod.refl (One q) w).setCell (p:=⟨q,3,none⟩) (.inr rfl) _,(hr.set5 _).1⟩)
theorem qLen (q eb m:Nat) (n:Int) (v0 v3 v4:Value) (l:List (Int×Value)) (hn:0 < n) (w:World) (hr:Row w q 5 (f5 v0 (.int .i64 n) (.map (some eb)) v3 v4)) (he:IMap w .i64 eb l) (hm:l.length=m):
  Calls Tryz.prog 173 #[.pointer (some ⟨q,0,none⟩)] w fun e w' => e= .returned (.int .i64 m)∧w=w' :=by
 obtain ⟨_,c1,c2,_,_⟩:=hr.c5
 subst hm
 have hlen:(Builtin.len_ #[212] 3 #[.map (some eb)]).run Tryz.prog w= .ok (.int .i64 l.length) w:=by
  obtain ⟨es,c,hb,hs⟩:=he.size
  simp [Builtin.len_,run_underlying Tryz.underlying212,run_getObj_at hb,hs,goInt]
 go_enter Tryz.func173,Tryz.ntmps173
 go_wp2_with fail
 refine (qSome q n hn _ c1).mono ?_;rintro e w' ⟨rfl,rfl⟩
 go_wp2
 go_ret
 exact ⟨rfl,rfl⟩
theorem qFirst_one (q h pb eb ib:Nat) (n fl ld id v r k:Int) (hn:0 < n) (w:World) (x:QO w q h pb eb ib n fl ld id v r k):
  Calls Tryz.prog 369 #[.pointer (some ⟨q,0,none⟩)] w fun e w' => e= .returned (.tuple #[.int .i64 id, .bool true])∧Below w.heap.size w w' :=by
 obtain ⟨c0,c1,c2,_,_⟩:=x.row.c5
 go_enter Tryz.func369,Tryz.ntmps369
 go_wp2_with fail
 refine (qSome q n hn _ c1).mono ?_;rintro e w' ⟨rfl,rfl⟩
 go_wp2_with fail
 refine (heapLeast_one h pb ib n id v _ x.heap).mono ?_;rintro e w1 ⟨rfl,hb⟩
 go_wp2
 go_ret2
 exact ⟨rfl,belowX⟩
theorem qGet (q h pb eb ib:Nat) (n fl ld id v r k:Int) (hn:0 < n) (h0:0≤id) (h1:id < n) (w:World) (x:QO w q h pb eb ib n fl ld id v r k):
  Calls Tryz.prog 175 #[.pointer (some ⟨q,0,none⟩), .int .i64 id] w fun e w' => e= .returned (.tuple #[ent v r k, .bool true])∧Below w.heap.size w w' :=by
 go_enter Tryz.func175,Tryz.ntmps175
 go_wp2_with fail
 refine (qFind_hit q eb n id _ _ _ _ v r k hn h0 h1 _ (x.row.alloc _) (x.ents.alloc _) (by simp [lk])).mono ?_;rintro e w1 ⟨rfl,hb⟩
 have R:=(row_new3 w _ _ _ _).below hb (by simp)
 obtain ⟨a0,a1,a2⟩:=R.c3
 have z0:=R.free 0
 have z1:=R.free 1
 have z2:=R.free 2
 have hz:w.heap.size < w1.heap.size:=by have:=hb.size;simp at this;omega
 go_wp2
 exact bodyPost_ret (v:= .tuple #[ent v r k, .bool true]) (by simp [results,Tryz.results175,go_sem, *]) rfl ⟨rfl,belowX⟩
set_option maxRecDepth 100000 in
theorem qRise_one (q h pb eb ib:Nat) (n fl ld id v r k:Int) (w:World) (v4:Value) (row:Row w q 5 (f5 (.pointer (some ⟨h,0,none⟩)) (.int .i64 n) (.map (some eb)) (.int .u64 fl) v4)) (x:HOne w h pb ib n id v):
  Calls Tryz.prog 283 #[.pointer (some ⟨q,0,none⟩)] w fun e w' => e= .returned (.tuple #[])∧Mod (One q) w w' ∧
   Row w' q 5 (f5 (.pointer (some ⟨h,0,none⟩)) (.int .i64 n) (.map (some eb)) (.int .u64 (mxI fl v)) v4):=by
 obtain ⟨c0,c1,c2,_,_⟩:=row.c5
 have l0:=row.lt
 go_enter Tryz.func283,Tryz.ntmps283
 go_wp2_with fail
 refine (heapLeast_one h pb ib n id v _ x).mono ?_;rintro e w1 ⟨rfl,hb⟩
 have R1:=row.below hb l0
 obtain ⟨_,_,_,a3,_⟩:=R1.c5
 have z3:=R1.free 3
 have hz:=hb.size
 have l1:q < w1.heap.size:=by omega
 go_wp2
 by_cases hlt:fl < v
 ·(refine wp_region_tail 8 (by kernel_rfl) (by kernel_rfl) ?_;simp only [List.take_succ_cons,List.take_zero,List.drop_succ_cons,List.drop_zero];repeat still_step);refine wpStill_nil ?_
  go_wp2
  go_end0
  refine ⟨rfl,modX, ?_⟩
  rw [mxI_lt (by assumption)]
  exact ((R1.set5 _).1.alloc _)
 ·have hge:v≤fl:=(by omega)
  (refine wp_region_tail 8 (by kernel_rfl) (by kernel_rfl) ?_;simp only [List.take_succ_cons,List.take_zero,List.drop_succ_cons,List.drop_zero];repeat still_step);refine wpStill_nil ?_
  go_wp2
  go_end0
  refine ⟨rfl,modX, ?_⟩
  rw [mxI_ge (by assumption)]
  exact ((R1.set5 _).1.alloc _)
set_option maxRecDepth 100000 in
theorem qEnter (q h pb eb:Nat) (n fl ld id v r k:Int) (hn:0 < n) (h0:0≤id) (h1:id < n) (he:REnt v r k) (hld:0≤ld) (hld2:ld≤1000000) (w:World) (x:QE w q h pb eb n fl ld):
  Calls Tryz.prog 249 #[.pointer (some ⟨q,0,none⟩), .int .i64 id,ent v r k] w fun e w' => e= .returned (.int .i64 0)∧Mod (fun b=> b=q∨b=h∨b=pb∨b=eb) w w' ∧
   ∃ ib,w.heap.size≤ib∧ib < w'.heap.size∧QO w' q h pb eb ib n (mxI fl v) (ld+k) id v r k:=by
 have k1:=he.w1
 have k2:=he.w2
 have l0:=x.row.lt
 have l1:=x.heap.row.lt
 have l2:=x.heap.map.lt
 have l3:=x.ents.lt
 go_enter Tryz.func249,Tryz.ntmps249
 go_wp2_with fail
 refine (qFind_miss q eb n id _ _ _ _ hn h0 h1 _ (x.row.alloc _) (x.ents.alloc _) rfl).mono ?_;rintro e w1 ⟨rfl,hb⟩
 have B:=(row_new3 w (.int .u64 v) (.int .u32 r) (.int .u32 k) 138).below hb (by simp)
 have X1:QE w1 q h pb eb n fl ld:=by
  have hm:Mod No w w1:=Mod.trans ((Mod.refl No w).alloc _) (Mod.of_below hb No) (fun _ _ h=> h)
  exact x.mod hm (fun h=> h) (fun h=> h) (fun h=> h) (fun h=> h)
 obtain ⟨b0,b1,b2⟩:=B.c3
 obtain ⟨c0,c1,c2,c3,c4⟩:=X1.row.c5
 have hz:w.heap.size < w1.heap.size:=by have:=hb.size;simp at this;omega
 have g0:q < w1.heap.size:=by omega
 go_wp2_with fail
 refine (right_yes v r k he _).mono ?_;rintro e w2 ⟨rfl,rfl⟩
 go_wp2_with fail
 refine wp_world (fun W=> Mod No w W∧Row W w.heap.size 3 (f3 (.int .u64 v) (.int .u32 r) (.int .u32 k))∧QE W q h pb eb n fl ld) ⟨?_,(B.alloc _).alloc _,X1.mod (((Mod.refl No w1).alloc _).alloc _) (fun h=> h) (fun h=> h) (fun h=> h) (fun h=> h)⟩ ?_
 ·exact (((Mod.trans ((Mod.refl No w).alloc _) (Mod.of_below hb No) (fun _ _ h=> h)).alloc _).alloc _)
 clear B X1 b0 b1 b2 c0 c1 c2 c3 c4 hz g0 hb
 rintro w2 ⟨hm2,B2,X2⟩
 obtain ⟨b0,b1,b2⟩:=B2.c3
 obtain ⟨c0,c1,c2,c3,c4⟩:=X2.row.c5
 (refine wp_region_tail 8 (by kernel_rfl) (by kernel_rfl) ?_;simp only [List.take_succ_cons,List.take_zero,List.drop_succ_cons,List.drop_zero];repeat still_step);refine wpStill_nil ?_
 go_wp2_with fail
 refine (put_empty h pb n id v hn h0 h1 _ (X2.heap.mod ((Mod.refl No w2).drew) (fun h=> h) (fun h=> h))).mono ?_
 rintro e w3 ⟨rfl,ib,i1,i2,H3,hm3⟩
 have d1:=X2.d1
 have d2:=X2.d2
 have d3:=X2.d3
 have d4:=X2.d4
 have d5:=X2.d5
 have s2:=hm2.size
 have s3:=hm3.size
 simp only [World.size_drew] at i1 s3
 have R3:Row w3 q 5 _:=(X2.row.drew).mod hm3 (by omega)
 have E3:IMap w3 .i64 eb []:=(X2.ents.drew).mod hm3 (by omega)
 have B3:Row w3 w.heap.size 3 _:=(B2.drew).mod hm3 (by omega)
 have m3:Mod (fun b=> b=q∨b=h∨b=pb∨b=eb) w w3:=Mod.trans (hm2.drew.no _) hm3 (fun b _ hb=> by omega)
 clear X2 B2 b0 b1 b2 c0 c1 c2 c3 c4 hm2 hm3
 obtain ⟨b0,b1,b2⟩:=B3.c3
 obtain ⟨c0,c1,c2,c3,c4⟩:=R3.c5
 go_wp2
 (refine wp_region_tail 6 (by kernel_rfl) (by kernel_rfl) ?_;simp only [List.take_succ_cons,List.take_zero,List.drop_succ_cons,List.drop_zero];repeat still_step);refine wpStill_nil ?_
 refine wpList_mapUpdate rfl _ _ _ _ rfl _ _ Tryz.underlying212 Tryz.underlying3 (q:= .i64) (b:=eb) (l:= []) E3.drew id (ent v r k) rfl rfl rfl ?_
 intro w4 p4 E4
 have s4:=p4.size
 simp only [World.size_drew] at s4
 have R4:Row w4 q 5 _:=(R3.drew).mod p4.mod d3
 have B4:Row w4 w.heap.size 3 _:=(B3.drew).mod p4.mod (by show w.heap.size≠eb;omega)
 have H4:HOne w4 h pb ib n id v:=H3.mod ((Mod.refl No w3).drew) (fun h=> h) (fun h=> h) (fun h=> h)|>.mod p4.mod d4 d5 (by show ib≠eb;omega)
 have m4:Mod (fun b=> b=q∨b=h∨b=pb∨b=eb) w w4:=Mod.trans m3.drew p4.mod (fun b _ hb=> .inr (.inr (.inr hb)))
 have z4:=R4.free 4
 have i4:ib < w4.heap.size:=by omega
 clear R3 E3 B3 H3 m3 b0 b1 b2 c0 c1 c2 c3 c4
 obtain ⟨b0,b1,b2⟩:=B4.c3
 obtain ⟨c0,c1,c2,c3,c4⟩:=R4.c5
 go_wp2
 (refine wp_region_tail 8 (by kernel_rfl) (by kernel_rfl) ?_;simp only [List.take_succ_cons,List.take_zero,List.drop_succ_cons,List.drop_zero];repeat still_step);refine wpStill_nil ?_
 go_wp2_with fail
 refine (qRise_one q h pb eb ib n fl (ld+k) id v r k _ (.int .i64 (ld+k)) ?_ ?_).mono ?_
 ·exact ((R4.set5 _).2).drew
 ·exact (H4.mod ((Mod.refl (One q) w4).setCell (p:=⟨q,4,none⟩) (.inr rfl) _).drew d1.symm d2.symm (by show ib≠q;omega))
 rintro e w6 ⟨rfl,hm6,R6⟩
 have m5:Mod (fun b=> b=q∨b=h∨b=pb∨b=eb) w _:=(m4.setCell (p:=⟨q,4,none⟩) (.inr (.inl rfl)) (.int .i64 (ld+k))).drew
 have e5:=(m4.setCell (p:=⟨q,4,none⟩) (.inr (.inl rfl)) (.int .i64 (ld+k))).size
 have s6:=hm6.size
 simp only [World.size_drew,World.size_setCell] at s6
 go_wp2
 go_ret
 refine ⟨rfl,Mod.trans m5 hm6 (fun b _ hb=> .inl hb),ib,by omega,by omega,⟨R6, ?_, ?_,d1,d2,d3,d4,d5,by omega,by omega⟩⟩
 ·exact ((E4.setCell _ _).drew).mod hm6 (by show eb≠q;omega)
 ·exact (H4.mod ((Mod.refl (One q) w4).setCell (p:=⟨q,4,none⟩) (.inr rfl) _).drew d1.symm d2.symm (by show ib≠q;omega)).mod hm6 d1.symm d2.symm (by show ib≠q;omega)
end Go.Q
namespace Go.Q
open Go.RowKit Go.Proofs
set_option maxRecDepth 100000 in
theorem qChange (q h pb eb ib:Nat) (n fl ld id v r k v' r' :Int) (hn:0 < n) (h0:0≤id) (h1:id < n) (hk1:1≤k) (hk2:k≤65536) (hld:0≤ld) (hld2:ld≤1000000) (w:World) (x:QO w q h pb eb ib n fl ld id v r k):
  Calls Tryz.prog 365 #[.pointer (some ⟨q,0,none⟩), .int .i64 id,ent v' r' k, .int .i64 0] w fun e w' => e= .returned (.int .i64 0)∧Mod (fun b=> b=q∨b=h∨b=pb∨b=eb∨b=ib) w w' ∧
   QO w' q h pb eb ib n (mxI fl v') ld id v' r' k:=by
 have l0:=x.row.lt
 have d1:=x.d1
 have d2:=x.d2
 have d3:=x.d3
 have d4:=x.d4
 have d5:=x.d5
 have d6:=x.d6
 have d7:=x.d7
 go_enter Tryz.func365,Tryz.ntmps365
 go_wp2
 refine wp_world (fun W=> Mod No w W∧w.heap.size < W.heap.size∧Row W w.heap.size 3 (f3 (.int .u64 v') (.int .u32 r') (.int .u32 k))∧QO W q h pb eb ib n fl ld id v r k) ⟨(Mod.refl No w).alloc _,by simp,row_new3 _ _ _ _ _,x.mod ((Mod.refl No w).alloc _) (fun h=> h) (fun h=> h) (fun h=> h) (fun h=> h) (fun h=> h)⟩ ?_
 rintro w2 ⟨hm2,s2,B2,X2⟩
 have hm0:=hm2
 have lq:=X2.row.lt
 obtain ⟨b0,b1,b2⟩:=B2.c3
 obtain ⟨c0,c1,c2,c3,c4⟩:=X2.row.c5
 have z4:=X2.row.free 4
 have hlk:=run_lookup (P:=Tryz.prog) (w:=w2.drew) (z:=ent 0 0 0) Tryz.underlying212 Tryz.underlying3 (Tryz.zeroValue138 _) X2.ents.drew id
 simp only [lk,if_true,Option.getD_some,ent] at hlk
 have hfd:∀ W,(Instr.field 138 (.agg #[.int .u64 v, .int .u32 r, .int .u32 k]) 2).run Tryz.prog W= .ok (.int .u32 k) W:=fun W=> by kernel_rfl
 (refine wp_region_tail 17 (by kernel_rfl) (by kernel_rfl) ?_;simp only [List.take_succ_cons,List.take_zero,List.drop_succ_cons,List.drop_zero];repeat still_step);refine wpStill_nil ?_
 clear hlk hfd
 go_wp2_with fail
 refine wp_world (fun W=> Mod (One q) w2 W∧W.heap.size=w2.heap.size∧Row W q 5 (f5 (.pointer (some ⟨h,0,none⟩)) (.int .i64 n) (.map (some eb)) (.int .u64 fl) (.int .i64 ld))) ⟨modX,by simp, ?_⟩ ?_
 ·have:=(X2.row.set5 (.int .i64 (ld+0))).2.drew
  rw [show ld+0=ld from by omega] at this ⊢
  exact this
 rintro w3 ⟨m3,s3,R3⟩
 have B3:Row w3 w.heap.size 3 _:=B2.mod m3 (by show w.heap.size≠q;omega)
 have E3:IMap w3 .i64 eb _:=X2.ents.mod m3 d3.symm
 have H3:=X2.heap.mod m3 d1.symm d2.symm d6.symm
 have li:=X2.heap.items.lt
 have le:=X2.ents.lt
 have lp:=X2.heap.map.lt
 have lq3:=R3.lt
 clear hm2 b0 b1 b2 c0 c1 c2 c3 c4 z4 B2
 obtain ⟨b0,b1,b2⟩:=B3.c3
 obtain ⟨c0,c1,c2,c3,c4⟩:=R3.c5
 (refine wp_region_tail 6 (by kernel_rfl) (by kernel_rfl) ?_;simp only [List.take_succ_cons,List.take_zero,List.drop_succ_cons,List.drop_zero];repeat still_step);refine wpStill_nil ?_
 refine wpList_mapUpdate rfl _ _ _ _ rfl _ _ Tryz.underlying212 Tryz.underlying3 (q:= .i64) (b:=eb) E3.drew id (ent v' r' k) rfl rfl rfl ?_
 intro w4 p4 E4
 simp only [pt,if_true] at E4
 have s4:=p4.size
 simp only [World.size_drew] at s4
 have R4:Row w4 q 5 _:=(R3.drew).mod p4.mod d3
 have B4:Row w4 w.heap.size 3 _:=(B3.drew).mod p4.mod (by show w.heap.size≠eb;have:=x.ents.lt;omega)
 have H4:HOne w4 h pb ib n id v:=H3.mod ((Mod.refl No w3).drew) (fun h=> h) (fun h=> h) (fun h=> h)|>.mod p4.mod d4 d5 d7.symm
 have m4:Mod (fun b=> b=q∨b=h∨b=pb∨b=eb∨b=ib) w w4:=Mod.trans (Mod.trans (hm0.no _) m3 (fun b _ hb=> .inl hb)).drew p4.mod (fun b _ hb=> .inr (.inr (.inr (.inl hb))))
 clear B3 R3 H3 E3 b0 b1 b2 c0 c1 c2 c3 c4 m3
 obtain ⟨b0,b1,b2⟩:=B4.c3
 obtain ⟨c0,c1,c2,c3,c4⟩:=R4.c5
 go_wp2
 (refine wp_region_tail 8 (by kernel_rfl) (by kernel_rfl) ?_;simp only [List.take_succ_cons,List.take_zero,List.drop_succ_cons,List.drop_zero];repeat still_step);refine wpStill_nil ?_
 go_wp2_with fail
 refine (set_one h pb ib n id v v' hn h0 h1 _ (H4.mod ((Mod.refl No w4).drew) (fun h=> h) (fun h=> h) (fun h=> h))).mono ?_
 rintro e w5 ⟨rfl,H5,m5⟩
 have R5:Row w5 q 5 _:=(R4.drew).mod m5 (by omega)
 have E5:IMap w5 .i64 eb _:=(E4.drew).mod m5 (by omega)
 have m5' :Mod (fun b=> b=q∨b=h∨b=pb∨b=eb∨b=ib) w w5:=Mod.trans m4.drew m5 (fun b _ hb=> by omega)
 clear R4 B4 H4 m4 b0 b1 b2 c0 c1 c2 c3 c4 m5
 go_wp2_with fail
 refine (qRise_one q h pb eb ib n fl ld id v' r' k _ (.int .i64 ld) R5 H5).mono ?_
 rintro e w6 ⟨rfl,m6,R6⟩
 go_wp2
 go_ret
 refine ⟨rfl,Mod.trans m5' m6 (fun b _ hb=> .inl hb),R6,E5.mod m6 d3.symm,H5.mod m6 d1.symm d2.symm d6.symm,d1,d2,d3,d4,d5,d6,d7⟩
theorem qCharge (q h pb eb ib:Nat) (n fl ld id v r k t:Int) (hn:0 < n) (h0:0≤id) (h1:id < n) (he:REnt v r k) (hv:v≤1000000000000000) (ht:0≤t) (ht2:t≤1000000) (hld:0≤ld) (hld2:ld≤1000000) (w:World) (x:QO w q h pb eb ib n fl ld id v r k):
  Calls Tryz.prog 364 #[.pointer (some ⟨q,0,none⟩), .int .i64 id, .int .i64 t] w fun e w' => e= .returned (.int .i64 0)∧Mod (fun b=> b=q∨b=h∨b=pb∨b=eb∨b=ib) w w' ∧
   QO w' q h pb eb ib n (mxI fl (v+(t * 1048576+r) / k)) ld id (v+(t * 1048576+r) / k) ((t * 1048576+r) % k) k:=by
 go_enter Tryz.func364,Tryz.ntmps364
 go_wp2_with fail
 refine (qFind_hit q eb n id _ _ _ _ v r k hn h0 h1 _ x.row x.ents (by simp [lk])).mono ?_;rintro e w1 ⟨rfl,hb⟩
 go_wp2_with fail
 refine (Add_ok v r k t he ht ht2 hv _).mono ?_;rintro e w2 ⟨rfl,hb2⟩
 have m2:Mod No w w2:=Mod.trans ((Mod.of_below hb No).alloc _) (Mod.of_below hb2 No) (fun _ _ h=> h)
 go_wp2_with fail
 refine (qChange q h pb eb ib n fl ld id v r k _ _ hn h0 h1 he.w1 he.w2 hld hld2 _ (x.mod (m2.alloc _) (fun h=> h) (fun h=> h) (fun h=> h) (fun h=> h) (fun h=> h))).mono ?_
 rintro e w3 ⟨rfl,m3,X3⟩
 go_wp2
 go_ret
 exact ⟨rfl,Mod.trans ((m2.alloc _).no _) m3 (fun b _ hb=> hb),X3⟩
theorem heapNew (n:Int) (h1:1≤n) (h2:n≤131072) (w:World):
  Calls Tryz.prog 122 #[.int .i64 n] w fun e w' => ∃ h pb,e= .returned (.tuple #[.pointer (some ⟨h,0,none⟩), .int .i64 0])∧Mod No w w' ∧w.heap.size≤h∧w.heap.size≤pb∧h < w'.heap.size∧pb < w'.heap.size∧HEmpty w' h pb n:=by
 have hmm:= @run_makeMap Tryz.prog
 go_enter Tryz.func122,Tryz.ntmps122
 go_wp2
 go_ret2
 refine ⟨w.heap.size+1,w.heap.size,rfl,modX,by omega,by omega,by simp,by simp;omega,⟨?_,(IMap.new w .i64).alloc _,by omega⟩⟩
 have:=row_new3 (w.alloc (.map #[] 0)) (.slice none 0 0) (.map (some w.heap.size)) (.int .i64 n) 328
 simpa using this
theorem queueNew (n:Int) (h1:1≤n) (h2:n≤131072) (w:World):
  Calls Tryz.prog 58 #[.int .i64 n] w fun e w' => ∃ q h pb eb,e= .returned (.tuple #[.pointer (some ⟨q,0,none⟩), .int .i64 0])∧Mod No w w' ∧w.heap.size≤q∧w.heap.size≤h∧w.heap.size≤pb∧w.heap.size≤eb∧
   q < w'.heap.size∧h < w'.heap.size∧pb < w'.heap.size∧eb < w'.heap.size∧QE w' q h pb eb n 0 0:=by
 have hmm:= @run_makeMap Tryz.prog
 go_enter Tryz.func58,Tryz.ntmps58
 go_wp2_with fail
 refine (heapNew n h1 h2 w).mono ?_;rintro e w1 ⟨h,pb,rfl,hm,g1,g2,g3,g4,H⟩
 have hz:=hm.size
 go_wp2
 go_ret2
 refine ⟨w1.heap.size+1,h,pb,w1.heap.size,rfl,modX,by omega,by omega,by omega,by omega,by simp,by simp;omega,by simp;omega,by simp;omega,⟨?_,(IMap.new w1 .i64).alloc _,H.mod (((Mod.refl No w1).alloc _).alloc _) (fun h=> h) (fun h=> h),by omega,by omega,by omega,by omega,by omega⟩⟩
 have:=row_new5 (w1.alloc (.map #[] 0)) (.pointer (some ⟨h,0,none⟩)) (.int .i64 n) (.map (some w1.heap.size)) (.int .u64 0) (.int .i64 0) 214
 simpa using this
end Go.Q
/- Laws for a range over a function,at the wide fence:the statement,one round,the iterator. -/
namespace Go.Q
open Go.RowKit
abbrev FW:Fence:=Fence.wide
def loopRec (fn:FuncId) (tmps:Array Value) (ps:Array Tmp) (assign body:Code) (d:Nat) (s:LoopState):Obj:= .loop { state:=s,pending:=none,fn,tmps,params:=ps,assign,body,defers:=d }
section
variable {P:Program} {w:World} {a:Act} {Q:Exit→Act→World→Prop} {n:Nat}
theorem run_yield {l:Nat} {fn:FuncId} {tmps:Array Value} {ps:Array Tmp} {assign body:Code} {d:Nat} {s:LoopState} (hl:w.heap[l]? =some (loopRec fn tmps ps assign body d s)) (args:Array Value) (hs:args.size=ps.size):
  (Instr.yield l args).run P w= .ok (.round l fn ((ps.zip args).foldl (fun t (p,v)=> t.setIfInBounds p v) tmps) assign body) w:=by
 simp [Instr.yield,Instr.getLoop,getObj,Sem.run,hl,loopRec,hs,Result.andThen]
theorem yield_round {l:Nat} {fn:FuncId} {tmps:Array Value} {ps:Array Tmp} {assign body:Code} {d:Nat} (hl:w.heap[l]? =some (loopRec fn tmps ps assign body d .ready)) (args:Array Value) (hs:args.size=ps.size) (R:World→Prop)
  (h:assign.wpIn (FW.inRound l) n P (Exit.then (fun a₁ w₁=> w₁.heap[l]? =some (loopRec fn tmps ps assign body d .ready)∧
    body.wpIn (FW.inRound l) n P (fun e _ w₂=> e= .normal∧w₂.heap[l]? =some (loopRec fn tmps ps assign body d .busy)∧R (w₂.putObj l (loopRec fn tmps ps assign body d .ready))) a₁ (w₁.putObj l (loopRec fn tmps ps assign body d .busy))) (fun _ _ _=> False))
   { tmps:=(ps.zip args).foldl (fun t (p,v)=> t.setIfInBounds p v) tmps,defers:= [] } w):
  YieldAt FW n P l args w fun e w' => e= .returned (.bool true)∧R w' :=by
 refine ⟨fn,_,assign,body,run_yield hl args hs,roundIn_of_wpIn trivial (wpIn_mono h ?_)⟩
 rintro e a₁ w₁ he
 cases e with
 |normal=>
  obtain ⟨h1,h2⟩:=he
  refine ⟨w₁.putObj l (loopRec fn tmps ps assign body d .busy), ?_,wpIn_mono h2 ?_⟩
  ·simp [Instr.beginRound,Instr.getLoop,getObj,setObj,Sem.run,h1,loopRec,Result.andThen,World.putObj]
  ·rintro e a₂ w₂ ⟨rfl,h3,h4⟩
   refine ⟨.bool true,w₂.putObj l (loopRec fn tmps ps assign body d .ready), ?_,rfl,h4⟩
   simp [Instr.endRound,Instr.getLoop,getObj,setObj,Sem.run,h3,loopRec,Result.andThen,World.putObj]
 |_=> exact he.elim
theorem wpIn_range {g:Operand} {ps:Array Tmp} {assign body:Code} {gf:Nat} {cap:Array Value} (hg:a.eval g= .func (.func gf) #[] cap) (eg:∀ args w,(callFunc gf args).run P w= .ok (.enter gf args) w)
  (I:World→Prop)
  (h:∀ fn,CallsIn FW 3 P gf (#[.func (.yield (w.heap.size+1)) #[] #[]]++cap) ((w.alloc (.deferred (some []))).alloc (loopRec fn a.tmps ps assign body w.heap.size .ready)) fun e w' =>
   (∃ v,e= .returned v)∧w'.heap[w.heap.size+1]? =some (loopRec fn a.tmps ps assign body w.heap.size .ready)∧I (w'.putObj (w.heap.size+1) (loopRec fn a.tmps ps assign body w.heap.size .exhausted)))
  (hk:∀ w',I w' →Q .normal { a with defers:= { target:= .collected w.heap.size,args:= #[] }::a.defers } w'):
  (Code.rangeFunc g ps assign body).wpIn FW 4 P Q a w:=by
 refine wpIn_rangeFunc ?_
 intro fn _
 obtain ⟨W1,hW1⟩:∃ W1,(w.alloc (.deferred (some []))).alloc (loopRec fn a.tmps ps assign body w.heap.size .ready)=W1:=⟨_,rfl⟩
 refine ⟨w.heap.size+1, [{ target:= .collected w.heap.size,args:= #[] }],W1, { target:= .fn (.func gf) cap,args:= #[.func (.yield (w.heap.size+1)) #[] #[]] },W1,gf, #[.func (.yield (w.heap.size+1)) #[] #[]]++cap,W1, ?_, ?_, ?_, ?_, ?_, ?_⟩
 ·rw [←hW1];exact run_enterLoop_outer _ _ _ _ _
 ·simp only [resolve,hg]
  simp [go_sem]
 ·intro f' _;trivial
 ·simp [invoke,go_sem,eg]
 ·intro _;decide
 ·rw [←hW1]
  refine (h fn).mono ?_
  rintro e w' ⟨⟨v,rfl⟩,h1,h2⟩
  refine ⟨none,w'.putObj (w.heap.size+1) (loopRec fn a.tmps ps assign body w.heap.size .exhausted), ?_,hk _ h2⟩
  exact run_endLoop h1 (by simp)
end
theorem wpIn_world {F:Fence} {n:Nat} {P:Program} {c:Code} {Q:Exit→Act→World→Prop} {a:Act} {w:World} (I:World→Prop) (h:I w) (k:∀ w',I w' →c.wpIn F n P Q a w'):c.wpIn F n P Q a w:=k w h
theorem heap_mod {S:Nat→Prop} {A B:World} {b:Nat} {o:Obj} (h:A.heap[b]? =some o) (m:Mod S A B) (hs:¬S b):B.heap[b]? =some o:=m.heap h hs
theorem heap_setCell {w:World} {b:Nat} {o:Obj} (h:w.heap[b]? =some o) {p:Addr} (hp:p.block≠b) (v:Value):(w.setCell p v).heap[b]? =some o:=by
 rw [Below.heap_setCell _ _ _ _ (Ne.symm hp)];exact h
theorem heap_putObj {w:World} {b l:Nat} {o o' :Obj} (h:w.heap[b]? =some o) (hp:l≠b):(w.putObj l o').heap[b]? =some o:=by
 unfold World.putObj
 simp only
 rw [Array.getElem?_setIfInBounds_ne hp];exact h
theorem row_putObj {w:World} {b l N:Nat} {F:Nat→Value} {o' :Obj} (h:Row w b N F) (hp:l≠b):Row (w.putObj l o') b N F:=h.setObj hp o'
theorem mod_putObj {S:Nat→Prop} {w w' :World} {l:Nat} {o' :Obj} (h:Mod S w w') (hp:w.heap.size≤l∨S l):Mod S w (w'.putObj l o'):=h.setObj hp o'
end Go.Q
namespace Go.Q
open Go.RowKit Go.Proofs
theorem up_any (v:Value) (g:Int) (h1:v.cells= #[v]) (w:World) (a:Option Addr) (n c:Nat) (hv:v= .slice a n c):Calls Tryz.prog 290 #[v, .int .i64 g] w fun e w' =>
  e= .returned (.func (.func 314) #[] #[.pointer (some ⟨w.heap.size+1,0,none⟩), .pointer (some ⟨w.heap.size,0,none⟩)])∧w' =(w.alloc (.cells #[v] 38)).alloc (.cells #[.int .i64 g] 3):=by
 subst hv
 go_enter Tryz.func290,Tryz.ntmps290
 go_wp2
 go_ret
 exact ⟨rfl,rfl⟩
def grp (par wt:Nat→Int):Nat→Value:=fun i=> if i % 2=0 then .int .i64 (par (i / 2)) else .int .i64 (wt (i / 2))
inductive Dep (par:Nat→Int):Nat→Nat→Prop
 |root:Dep par 0 0
 |up {g p d:Nat}:0 < g→par g=(p:Int)→Dep par p d→Dep par g (d+1)
attribute [local go_sem] Oper.semAt_some
theorem up1_walk (l bg bl gb G cap:Nat) (par wt:Nat→Int) (J:Nat→World→Prop) (w:World) (g d:Nat)
  (hd:Dep par g d) (hpar:∀ g,0 < g→g < G→0≤par g∧par g < g) (hg:g < G)
  (hJ:∀ k A B,J k A→Mod (One bg) A B→J k B)
  (hY:∀ k W (x:Nat),k≤d→J k W→YieldAt FW (3 - 1) Tryz.prog l #[.int .i64 x] W fun e W' => e= .returned (.bool true)∧J (k+1) W' ∧(∀ N F,Row W bg N F→Row W' bg N F)∧(∀ N F,Row W bl N F→Row W' bl N F)∧(∀ N F,Row W gb N F→Row W' gb N F))
  (hb:Row w bg 1 (f1 (.int .i64 g))) (hl:Row w bl 1 (f1 (.slice (some ⟨gb,0,none⟩) G cap))) (hgr:Row w gb (G * 2) (grp par wt)) (d1:bg≠bl) (d2:bg≠gb) (h0:J 0 w):
  CallsIn FW 3 Tryz.prog 314 #[.func (.yield l) #[] #[], .pointer (some ⟨bg,0,none⟩), .pointer (some ⟨bl,0,none⟩)] w fun e w' => (∃ v,e= .returned v)∧J (d+1) w' :=by
 refine callsIn_of_wp Tryz.func314 rfl trivial ?_ rfl
 simp only [Tryz.ntmps314,List.size_toArray,List.length_cons,List.length_nil,Nat.reduceAdd,Nat.reduceSub,Array.replicate_succ,Array.replicate_zero,List.push_toArray,List.append_toArray,List.nil_append,List.cons_append]
 gi_wp2
 gi_loopw [4] (fun _ wr=> ∃ (x k r:Nat),Dep par x r∧x < G∧k+r=d∧Row wr bg 1 (f1 (.int .i64 x))∧Row wr bl 1 (f1 (.slice (some ⟨gb,0,none⟩) G cap))∧Row wr gb (G * 2) (grp par wt)∧J k wr) (fun _ wr=> (intOf ((wr.cell? ⟨bg,0,none⟩).getD undef)).toNat)
 case atStart=> exact ⟨g,0,d,hd,hg,by omega,hb,hl,hgr,h0⟩
 case round=>
  obtain ⟨x,k,r,hx,hxG,hkr,R1,R2,R3,hj⟩:=hrel
  have c1:wr.cell? ⟨bg,0,none⟩=some (.int .i64 x):=R1.cell (i:=0) (by omega)
  obtain ⟨fn,tmps,assign,body,hy,hR⟩:=hY k wr x (by omega) hj
  have H:=Lib.hid hkr;clear hkr
  gi_wp2_with fail
  refine hR.mono ?_
  rintro e w3 ⟨rfl,hj3,q1,q2,q3⟩
  clear hR hy hY
  have S1:=q1 _ _ R1
  have S2:=q2 _ _ R2
  have S3:=q3 _ _ R3
  clear q1 q2 q3 R1 R2 R3 hj hl hgr hb
  have e1:w3.cell? ⟨bg,0,none⟩=some (.int .i64 x):=S1.cell (i:=0) (by omega)
  have e2:w3.cell? ⟨bl,0,none⟩=some (.slice (some ⟨gb,0,none⟩) G cap):=S2.cell (i:=0) (by omega)
  have z1:=S1.free 0
  by_cases hx0:0 < x
  ·have i0:(0:Int) < (x:Int):=by omega
   have i1:(x:Int) < (G:Int):=by omega
   have i2:(0:Int)≤(x:Int):=by omega
   cases hx with
   |root=> omega
   | @up _ p r h1 h2 h3=>
    have hp:=hpar x hx0 hxG
    have e3:w3.cell? ⟨gb,x * 2,none⟩=some (.int .i64 p):=by
     rw [S3.cell (i:=x * 2) (by omega)]
     simp only [grp,show x * 2 % 2=0 from by omega,show x * 2 / 2=x from by omega,if_true,h2]
    have hp1:p < x:=by omega
    have H2:=Lib.hid h2;clear h2 hp
    gi_wp2
    refine ⟨⟨p,k+1,r,h3,by omega,by have:=H.out;omega,(S1.set (i:=0) (by omega) _).congr (fun i hi=> by obtain rfl:i=0:=(by omega);rfl),S2.setOther (by simpa using d1) _,S3.setOther (by simpa using d2) _,hJ _ _ _ hj3 ((Mod.refl (One bg) w3).setCell (p:=⟨bg,0,none⟩) (.inr rfl) _)⟩, ?_⟩
    rw [World.cell?_setCell_same _ _ _ e1,c1]
    simp [intOf]
    omega
  ·obtain rfl:x=0:=by omega
   have hr0:r=0:=by cases hx <;> first|rfl|omega
   have HD:=Lib.hid hr0;clear hr0
   gi_wp2
   go_end0
   exact ⟨⟨_,rfl⟩,by have h1:=H.out;have h2:=HD.out;rw [show d+1=k+1 from by omega];exact hj3⟩
theorem depth_any (gb G cap:Nat) (par wt:Nat→Int) (g d:Nat) (hd:Dep par g d) (hdb:d≤1000) (hpar:∀ g,0 < g→g < G→0≤par g∧par g < g) (hg:g < G) (w:World) (hgr:Row w gb (G * 2) (grp par wt)):
  Calls Tryz.prog 258 #[.slice (some ⟨gb,0,none⟩) G cap, .int .i64 g] w fun e w' => e= .returned (.int .i64 d)∧Below w.heap.size w w' :=by
 refine (callsIn_wide (n:=4)).1 ?_
 refine callsIn_of_wp_marks Tryz.func258 rfl trivial ?_ rfl
 simp only [Tryz.ntmps258,List.size_toArray,List.length_cons,List.length_nil,Nat.reduceAdd,Nat.reduceSub,Array.replicate_succ,Array.replicate_zero,List.push_toArray,List.append_toArray,List.nil_append,List.cons_append]
 have lg:=hgr.lt
 gi_wp2_with fail
 refine ⟨trivial,(callsIn_wide (n:=3)).2 ((up_any _ g rfl _ (some ⟨gb,0,none⟩) G cap rfl).mono ?_)⟩
 rintro e w1 ⟨rfl,rfl⟩
 gi_wp2_with fail
 refine wpIn_world (fun W=> W.heap.size=w.heap.size+3∧Mod No w W∧Row W w.heap.size 1 (f1 (.int .i64 (-1)))∧Row W (w.heap.size+1) 1 (f1 (.slice (some ⟨gb,0,none⟩) G cap))∧Row W (w.heap.size+2) 1 (f1 (.int .i64 g))) ⟨by simp,modX, ?_, ?_, ?_⟩ ?_
 ·exact ((row_new1 w _ 3).alloc _).alloc _
 ·have:=(row_new1 (w.alloc (.cells #[.int .i64 (-1)] 3)) (.slice (some ⟨gb,0,none⟩) G cap) 38).alloc (.cells #[.int .i64 g] 3)
  simpa using this
 ·have:=(row_new1 ((w.alloc (.cells #[.int .i64 (-1)] 3)).alloc (.cells #[.slice (some ⟨gb,0,none⟩) G cap] 38)) (.int .i64 g) 3)
  simpa using this
 rintro W ⟨hz,hm,R0,R1,R2⟩
 have HZ:=Lib.hid hz;clear hz
 refine wpIn_range (gf:=314) (cap:= #[.pointer (some ⟨w.heap.size+2,0,none⟩), .pointer (some ⟨w.heap.size+1,0,none⟩)]) rfl (enters_of Tryz.func314 (by kernel_rfl) rfl)
  (fun W' => Row W' w.heap.size 1 (f1 (.int .i64 d))∧Mod No w W' ∧W'.heap[W.heap.size]? =some (.deferred (some []))) ?h ?hk
 case h=>
  intro fn
  generalize hrec:loopRec fn _ _ _ _ W.heap.size=rec
  have hz1:w.heap.size+3≤W.heap.size:=by have:=HZ.out;omega
  have hz2:W.heap.size≤w.heap.size+3:=by have:=HZ.out;omega
  refine (up1_walk (W.heap.size+1) (w.heap.size+2) (w.heap.size+1) gb G cap par wt (fun k V=> Row V w.heap.size 1 (f1 (.int .i64 ((k:Int) - 1)))∧Mod No w V∧V.heap[W.heap.size]? =some (.deferred (some []))∧V.heap[W.heap.size+1]? =some (rec .ready)) _ g d hd hpar hg ?_ ?_ ((R2.alloc _).alloc _) ((R1.alloc _).alloc _) (((hgr.mod hm (fun h=> h)).alloc _).alloc _) (by omega) (by omega) ⟨(R0.alloc _).alloc _,(hm.alloc _).alloc _, ?_, ?_⟩).mono ?_
  ·rintro k A B ⟨h1,h2,h3,h4⟩ m
   exact ⟨h1.mod m (by show w.heap.size≠w.heap.size+2;omega),Mod.trans (h2.no (fun b=> w.heap.size≤b)) m (fun b hb e=> by have:b=w.heap.size+2:=e;omega)|>.mono (fun b hb e=> by have:w.heap.size≤b:=e;omega),m.heap h3 (by show W.heap.size≠w.heap.size+2;omega),m.heap h4 (by show W.heap.size+1≠w.heap.size+2;omega)⟩
  ·rintro k V x hkd ⟨h1,h2,h3,h4⟩
   have lV:=h1.lt
   have l4:=Lib.hid (lt_of_block h4)
   rw [←hrec] at h4
   have HR:=Lib.hid hrec;clear hrec
   refine (yield_round h4 _ rfl (fun V' => (Row V' w.heap.size 1 (f1 (.int .i64 (((k+1:Nat):Int) - 1)))∧Mod No w V' ∧V'.heap[W.heap.size]? =some (.deferred (some []))∧V'.heap[W.heap.size+1]? =some (rec .ready))∧(∀ N F,Row V (w.heap.size+2) N F→Row V' (w.heap.size+2) N F)∧(∀ N F,Row V (w.heap.size+1) N F→Row V' (w.heap.size+1) N F)∧(∀ N F,Row V gb N F→Row V' gb N F)) ?_).mono ?_
   ·have H4:=Lib.hid h4;clear h4
    gi_wp2
    have h4:=H4.out
    refine ⟨h4, ?_⟩
    refine wpIn_world (fun U=> Row U w.heap.size 1 (f1 (.int .i64 ((k:Int) - 1)))∧Mod No w U∧U.heap[W.heap.size]? =some (.deferred (some []))∧U.heap[W.heap.size+1]? =some (loopRec _ _ _ _ _ _ .busy)∧(∀ b N F,b < W.heap.size→Row V b N F→Row U b N F)) ⟨row_putObj h1 (by omega),mod_putObj h2 (.inl (by omega)),heap_putObj h3 (by omega),World.putObj_heap_same l4.out,fun b N F hb r=> row_putObj r (by omega)⟩ ?_
    rintro U ⟨g1,g2,g3,g4,g5⟩
    have c0:U.cell? ⟨w.heap.size,0,none⟩=some (.int .i64 ((k:Int) - 1)):=g1.cell (i:=0) (by omega)
    have z0:=g1.free 0
    clear h4
    gi_wp2
    have hw:wrap64 (k:Int)=(k:Int):=by unfold wrap64;omega
    refine ⟨heap_setCell g4 (by show w.heap.size≠W.heap.size+1;omega) _,⟨?_, ?_, ?_, ?_⟩, ?_, ?_, ?_⟩
    ·have:=(g1.set (i:=0) (by omega) (.int .i64 (wrap64 (k:Int)))).congr (G:=f1 (.int .i64 (((k+1:Nat):Int) - 1))) (fun i hi=> by obtain rfl:i=0:=(by omega);simp [f1,hw])
     refine row_putObj (b:=w.heap.size) ?_ (by omega)
     simpa [hw] using this
    ·exact mod_putObj (g2.setCell (.inl (by show w.heap.size≤w.heap.size;omega)) _) (.inl (by omega))
    ·exact heap_putObj (heap_setCell g3 (by show w.heap.size≠W.heap.size;omega) _) (by omega)
    ·rw [←HR.out];exact World.putObj_heap_same (by have:=lt_of_block g4;simpa using this)
    ·intro N F r;exact row_putObj ((g5 _ _ _ (by omega) r).setOther (by show w.heap.size≠w.heap.size+2;omega) _) (by omega)
    ·intro N F r;exact row_putObj ((g5 _ _ _ (by omega) r).setOther (by show w.heap.size≠w.heap.size+1;omega) _) (by omega)
    ·intro N F r;exact row_putObj ((g5 _ _ _ (by omega) r).setOther (by show w.heap.size≠gb;omega) _) (by omega)
   ·rintro e V' ⟨rfl,h⟩
    exact ⟨rfl,h.1,h.2.1,h.2.2.1,h.2.2.2⟩
  ·rw [Below.heap_alloc _ _ _ (by simp)];exact World.alloc_heap_new _ _
  ·rw [←hrec];exact (by have:=World.alloc_heap_new (W.alloc (.deferred (some [])));rw [World.size_alloc] at this;exact this _)
  ·rintro e V ⟨⟨v,rfl⟩,h1,h2,h3,h4⟩
   refine ⟨⟨v,rfl⟩,h4,row_putObj (h1.congr (fun i hi=> by simp [f1])) (by omega),mod_putObj h2 (.inl (by omega)),heap_putObj h3 (by omega)⟩
 case hk=>
  rintro W' ⟨S0,sm,sd⟩
  have c0:W'.cell? ⟨w.heap.size,0,none⟩=some (.int .i64 d):=S0.cell (i:=0) (by omega)
  gi_wp2
  refine ⟨by simp, .inl ⟨_,_,rfl,run_takeDeferred sd, ?_⟩⟩
  exact ⟨_,results_tmp rfl _ _ _,⟨rfl,(mod_putObj sm (.inl (by have:=HZ.out;omega))).below⟩⟩
end Go.Q
