/- A part of the proof that TopGreat answers true: what some of the functions on its road compute. -/
import Derived.Deep.DeepCutAuto
import Derived.Laws.CopyRow
import Derived.Test.YtckddephdbhagaaGreatDoorQ3
import Derived.Test.YtckddephdbhagaaGreatDoorQ4
import Derived.Test.YtckddephdbhagaaGreatDoorQ5
import Derived.Test.YtckddephdbhagaaGreatDoorQ12
set_option linter.unusedVariables false
set_option linter.unusedSimpArgs false
namespace Go.Q
open Go.RowKit Go.Proofs
def regionOf (n:Nat):Code→Option (Array Oper)
 | .region m ops _=> if m=n then some ops else none
 | .seq a b=> (regionOf n a).or (regionOf n b)
 | .cond _ a b=> (regionOf n a).or (regionOf n b)
 | .block _ a=> regionOf n a
 | .loop a=> regionOf n a
 |_=> none
set_option maxRecDepth 100000 in
set_option maxHeartbeats 4000000 in
theorem new15 (ops:Array Oper) (hops:(Tryz.f18.body.bind (regionOf 15))=some ops) (wr w:World) (sb qb ab C K:Nat) (qv av:Value) (F:Nat→Value) (xq xa:List Value) (t0 t1 t2 t3 t5 t6 t9 t10 t11 t12 t13 t14 t15 t16 t17 t18 t19 t20 t21 t22 t23 t24 t25 t26 t27 t28 t29 t30 t31 t32 t33 t34 t35 t36 t37 t38 t39 t40 t41 t42 t43 t44 t45 t46 t47 t48 t49 t50 t51 t52 t53 t54 t55 t56 t57 t58 t59 t60 t61 t62 t63 t64 t65 t66 t67 t68 t69 t70 t71 t72 t73 t74 t75 t76 t77 t78 t79 t80 t81 t82 t83 t84:Value) (Q:Exit→Act→World→Prop)
  (hS:Row wr sb 10 F) (e6:F 6=qv) (e7:F 7=av) (hq0:wr.ownsRow w.heap.size 132 1 qv K xq) (ha0:wr.ownsRow w.heap.size 133 1 av K xa) (hK:K≤256) (lw8:w.heap.size≤wr.heap.size)
  (nq:∀ b,qv.ownBlock=some b→b≠sb) (na:∀ b,av.ownBlock=some b→b≠sb) (nqa:∀ b,av.ownBlock=some b→¬qv.ownBlock=some b)
  (hQ:∀ (v63 v64 v65 v66 v67 v68 v69 v70 v71 v72 v73 v74 v75 v76 v77 v78 v79 v80 v81 v82:Value) (gq ga capq capa:Nat) (w' :World),Mod (fun b=> b=sb∨qv.ownBlock=some b∨av.ownBlock=some b) wr w' →Row w' sb 10 (fun i=> if i=7 then slc ga (K+1) capa else if i=6 then slc gq (K+1) capq else F i)→
   w'.ownsRow w.heap.size 132 1 (slc gq (K+1) capq) (K+1) (xq++ [slc qb C C])→w'.ownsRow w.heap.size 133 1 (slc ga (K+1) capa) (K+1) (xa++ [slc ab C C])→
   (qv.ownBlock=some gq∨wr.heap.size≤gq)→(av.ownBlock=some ga∨wr.heap.size≤ga)→gq≠ga→Q .normal { tmps:= #[t0,t1,t2,t3,ptr sb,t5,t6,slc qb C C,slc ab C C,t9,t10,t11,t12,t13,t14,t15,t16,t17,t18,t19,t20,t21,t22,t23,t24,t25,t26,t27,t28,t29,t30,t31,t32,t33,t34,t35,t36,t37,t38,t39,t40,t41,t42,t43,t44,t45,t46,t47,t48,t49,t50,t51,t52,t53,t54,t55,t56,t57,t58,t59,t60,t61,t62,v63,v64,v65,v66,v67,v68,v69,v70,v71,v72,v73,v74,v75,v76,v77,v78,v79,v80,v81,v82,t83,t84],defers:= [] } w'):
  (Code.region 15 ops true).wp Tryz.prog Q { tmps:= #[t0,t1,t2,t3,ptr sb,t5,t6,slc qb C C,slc ab C C,t9,t10,t11,t12,t13,t14,t15,t16,t17,t18,t19,t20,t21,t22,t23,t24,t25,t26,t27,t28,t29,t30,t31,t32,t33,t34,t35,t36,t37,t38,t39,t40,t41,t42,t43,t44,t45,t46,t47,t48,t49,t50,t51,t52,t53,t54,t55,t56,t57,t58,t59,t60,t61,t62,t63,t64,t65,t66,t67,t68,t69,t70,t71,t72,t73,t74,t75,t76,t77,t78,t79,t80,t81,t82,t83,t84],defers:= [] } wr:=by
 have h2:Tryz.f18.body.bind (regionOf 15)=some _:=rfl
 rw [h2] at hops
 cases hops
 have s6:wr.cell? ⟨sb,6,none⟩=some qv:=by rw [hS.cell (by omega),e6]
 have s7:wr.cell? ⟨sb,7,none⟩=some av:=by rw [hS.cell (by omega),e7]
 have f6:=hS.free 6
 have f7:=hS.free 7
 have ls:=hS.lt
 have E6:=Lib.hid e6
 have E7:=Lib.hid e7
 have HQ:=Lib.hid hQ
 clear e6 e7 hQ
 have sl1:∀ u∈ [slc qb C C],u.oneCell' =true:=by simp [Value.oneCell']
 have sl2:∀ u∈ [slc ab C C],u.oneCell' =true:=by simp [Value.oneCell']
 have nql:∀ b,qv.ownBlock=some b→b < wr.heap.size:=fun b hb=> (hq0.lt b hb).2
 refine wp_region_chain (fun w' => w'.cell? ⟨sb,6,none⟩=some qv∧w'.cell? ⟨sb,7,none⟩=some av) [7,8,14,15,18,21] [1,9,10,11,13,16,19,20] [18,21] (rds [0,1,2,3,4,5,6,9,10,11,12,13] (.ef2 7 (.ef2 8 (.ef 14 (.ef 15 (rds [16,17] (.ef 18 (rds [19,20] (.ef 21 .nil)))))) 14 (.ef 8 (.ef 15 (rds [16,17] (.ef 18 (rds [19,20] (.ef 21 .nil))))))) 14 (.ef 7 (.ef 8 (.ef 15 (rds [16,17] (.ef 18 (rds [19,20] (.ef 21 .nil))))))))) (by kernel_rfl) (by kernel_rfl) ⟨s6,s7⟩ ?_
 intro O hO
 have HO:=Lib.hid hO
 clear hO
 simp only [rds]
 (repeat (first|(refine lxp HO (v:=?_) (fun w'=> ?_) ?_;rotate_left;(focus (go_simp;(try exact rfl);done));try go_simp)|(refine lxr HO (v:=?_) (fun w' hC'=> ?_) ?_;rotate_left;(focus (obtain ⟨c6,c7⟩:=hC';go_simp;(try exact rfl);done));try go_simp)|(refine lxo HO ?_;try go_simp)))
 refine wpL_eff2 ?o1 ?o2
 case o1=>
  (refine lxe HO (fun K hK=> ?_);go_simp;refine hK _ _ ?_ ?_;all_goals clear hK K)
  ·refine .inr ⟨?_, ?_⟩ <;> go_simp
  refine wpL_eff2 ?o3 ?o4
  case o3=>
   refine lxe HO (fun Kx hKx=> ?_)
   refine step_app_c 132 _ 1 24 Tryz.infoSPQ rfl _ _ 128 rfl Tryz.underlying128 rfl (by decide) (by decide) [slc qb C C] rfl sl1 w.heap.size qv K xq _ _ rfl rfl (by (simp;omega)) (by omega) (by (repeat first|(with_reducible exact hq0)|(with_reducible refine World.ownsRow.drew ?_)|(with_reducible refine World.ownsRow.alloc ?_ _))) (by (repeat first|(with_reducible refine row_one _ _ _ _ ?_;(first|(with_reducible rfl)|(simp;done)))|(with_reducible refine Row.drew ?_)|(with_reducible refine Row.alloc ?_ _))) ?_;intro gq capq w7 hA
   have ha7:w7.ownsRow w.heap.size 133 1 av K xa:=(ownsRow_mod (S:=fun b=> qv.ownBlock=some b) (by (repeat first|(with_reducible exact ha0)|(with_reducible refine World.ownsRow.drew ?_)|(with_reducible refine World.ownsRow.alloc ?_ _))) hA.mod nqa)
   have r7:Row w7 sb 10 F:=Appd.row hA (by (repeat first|(with_reducible exact hS)|(with_reducible refine Row.drew ?_)|(with_reducible refine Row.alloc ?_ _))) (fun h=> nq _ h rfl)
   have hz7:=hA.mod.size
   simp only [World.size_alloc,World.size_drew] at hz7
   have l7:=r7.lt
   have k6:w7.cell? ⟨sb,6,none⟩=some qv:=by rw [r7.cell (by omega),E6.out]
   have k7:w7.cell? ⟨sb,7,none⟩=some av:=by rw [r7.cell (by omega),E7.out]
   refine hKx _ _ (.inr ⟨k6,k7⟩) ?_
   clear hKx Kx
   (refine lxe HO (fun K hK=> ?_);go_simp;refine hK _ _ ?_ ?_;all_goals clear hK K)
   ·refine .inr ⟨?_, ?_⟩ <;> go_simp
   refine lxe HO (fun Kx hKx=> ?_)
   refine step_app_c 133 _ 1 24 Tryz.infoSEnt rfl _ _ 129 rfl Tryz.underlying129 rfl (by decide) (by decide) [slc ab C C] rfl sl2 w.heap.size av K xa _ _ rfl rfl (by ((try simp only [World.size_alloc,World.size_drew]);omega)) (by omega) (by (repeat first|(with_reducible exact ha7)|(with_reducible refine World.ownsRow.drew ?_)|(with_reducible refine World.ownsRow.alloc ?_ _))) (by first|((repeat first|(with_reducible refine row_one _ _ _ _ ?_;(first|(with_reducible rfl)|(simp;done)))|(with_reducible refine Row.drew ?_)|(with_reducible refine Row.alloc ?_ _));done)|(exact Row.mod (by (repeat first|(with_reducible refine row_one _ _ _ _ ?_;(first|(with_reducible rfl)|(simp;done)))|(with_reducible refine Row.drew ?_)|(with_reducible refine Row.alloc ?_ _))) hA.mod (by intro hx;have hxx:=nql _ hx;(first|omega|(simp only [World.size_alloc,World.size_drew] at hxx;omega))))) ?_;intro ga capa w8 hA2
   have r8:Row w8 sb 10 F:=Appd.row hA2 (by (repeat first|(with_reducible exact r7)|(with_reducible refine Row.drew ?_)|(with_reducible refine Row.alloc ?_ _))) (fun h=> na _ h rfl)
   have l8:=r8.lt
   have k8:w8.cell? ⟨sb,6,none⟩=some qv:=by rw [r8.cell (by omega),E6.out]
   have k9:w8.cell? ⟨sb,7,none⟩=some av:=by rw [r8.cell (by omega),E7.out]
   have z8:=r8.free 6
   have z9:=r8.free 7
   refine hKx _ _ (.inr ⟨k8,k9⟩) ?_
   clear hKx Kx
   (repeat (first|(refine lxp HO (v:=?_) (fun w'=> ?_) ?_;rotate_left;(focus (go_simp;(try exact rfl);done));try go_simp)|(refine lxr HO (v:=?_) (fun w' hC'=> ?_) ?_;rotate_left;(focus (obtain ⟨c6,c7⟩:=hC';go_simp;(try exact rfl);done));try go_simp)|(refine lxo HO ?_;try go_simp)))
   (refine lxe HO (fun K hK=> ?_);go_simp;refine hK _ _ (.inl (by rfl)) ?_;clear hK K)
   (repeat (first|(refine lxp HO (v:=?_) (fun w'=> ?_) ?_;rotate_left;(focus (go_simp;(try exact rfl);done));try go_simp)|(refine lxr HO (v:=?_) (fun w' hC'=> ?_) ?_;rotate_left;(focus (obtain ⟨c6,c7⟩:=hC';go_simp;(try exact rfl);done));try go_simp)|(refine lxo HO ?_;try go_simp)))
   (refine lxe HO (fun K hK=> ?_);go_simp;refine hK _ _ (.inl (by rfl)) ?_;clear hK K)
   refine wpL_nil ?_
   have M8:Mod (fun b=> b=sb) w8 (((w8.setCell ⟨sb,6,none⟩ (slc gq (K+1) capq))).setCell ⟨sb,7,none⟩ (slc ga (K+1) capa)):=((Mod.refl (fun b=> b=sb) w8).setCell (p:=⟨sb,6,none⟩) (.inr rfl) _).setCell (p:=⟨sb,7,none⟩) (.inr rfl) _
   have M78:Mod (fun b=> b=sb∨av.ownBlock=some b) w7 w8:=Mod.trans (by (repeat first|(with_reducible exact Mod.refl _ _)|(with_reducible refine Mod.drew ?_)|(with_reducible refine Mod.alloc ?_ _))) (hA2.mod.mono (fun b _ h=> .inr h)) (fun _ _ h=> h)
   have M7:=Mod.trans M78 (M8.mono (T:=fun b=> b=sb∨av.ownBlock=some b) (fun b _ h=> .inl h)) (fun _ _ h=> h)
   have M07:Mod (fun b=> b=sb∨qv.ownBlock=some b∨av.ownBlock=some b) wr w7:=Mod.trans (by (repeat first|(with_reducible exact Mod.refl _ _)|(with_reducible refine Mod.drew ?_)|(with_reducible refine Mod.alloc ?_ _))) (hA.mod.mono (T:=fun b=> b=sb∨qv.ownBlock=some b∨av.ownBlock=some b) (fun b _ h=> .inr (.inl h))) (fun _ _ h=> h)
   have M:=Mod.trans M07 (M7.mono (T:=fun b=> b=sb∨qv.ownBlock=some b∨av.ownBlock=some b) (fun b _ h=> h.imp id .inr)) (fun _ _ h=> h)
   have lq:=hA.lt
   have aq:=hA.at_
   have aa:=hA2.at_
   have zz:=hA2.mod.size
   simp only [World.size_alloc,World.size_drew] at aq aa zz
   have gqs:gq≠sb:=by rintro rfl;rcases aq with h|h;exact nq _ h rfl;omega
   have gas:ga≠sb:=by rintro rfl;rcases aa with h|h;exact na _ h rfl;omega
   have gqa:¬av.ownBlock=some gq:=fun h=> by rcases aq with h' |h';exact nqa _ h h';have:=(ha0.lt _ h).2;omega
   refine HQ.out _ _ _ _ _ _ _ _ _ _ _ _ _ _ _ _ _ _ _ _ gq ga capq capa _ M ?_ ?_ ?_ ?_ ?_ ?_
   ·exact (r8.set (i:=6) (by omega) _).set (i:=7) (by omega) _
   ·exact ownsRow_mod hA.own M7 (by rintro b hb (rfl|h);exact gqs (Option.some.inj hb);exact gqa (h.trans hb.symm))
   ·exact ownsRow_mod hA2.own M8 (by rintro b hb rfl;exact gas (Option.some.inj hb))
   ·exact aq.imp id (by omega)
   ·exact aa.imp id (by omega)
   ·rintro rfl;rcases aa with h|h;exact gqa h;omega
  case o4=>
   (refine lxe HO (fun K hK=> ?_);go_simp;refine hK _ _ ?_ ?_;all_goals clear hK K)
   ·refine .inr ⟨?_, ?_⟩ <;> go_simp
   refine lxe HO (fun Kx hKx=> ?_)
   refine step_app_c 132 _ 1 24 Tryz.infoSPQ rfl _ _ 128 rfl Tryz.underlying128 rfl (by decide) (by decide) [slc qb C C] rfl sl1 w.heap.size qv K xq _ _ rfl rfl (by (simp;omega)) (by omega) (by (repeat first|(with_reducible exact hq0)|(with_reducible refine World.ownsRow.drew ?_)|(with_reducible refine World.ownsRow.alloc ?_ _))) (by (repeat first|(with_reducible refine row_one _ _ _ _ ?_;(first|(with_reducible rfl)|(simp;done)))|(with_reducible refine Row.drew ?_)|(with_reducible refine Row.alloc ?_ _))) ?_;intro gq capq w7 hA
   have ha7:w7.ownsRow w.heap.size 133 1 av K xa:=(ownsRow_mod (S:=fun b=> qv.ownBlock=some b) (by (repeat first|(with_reducible exact ha0)|(with_reducible refine World.ownsRow.drew ?_)|(with_reducible refine World.ownsRow.alloc ?_ _))) hA.mod nqa)
   have r7:Row w7 sb 10 F:=Appd.row hA (by (repeat first|(with_reducible exact hS)|(with_reducible refine Row.drew ?_)|(with_reducible refine Row.alloc ?_ _))) (fun h=> nq _ h rfl)
   have hz7:=hA.mod.size
   simp only [World.size_alloc,World.size_drew] at hz7
   have l7:=r7.lt
   have k6:w7.cell? ⟨sb,6,none⟩=some qv:=by rw [r7.cell (by omega),E6.out]
   have k7:w7.cell? ⟨sb,7,none⟩=some av:=by rw [r7.cell (by omega),E7.out]
   refine hKx _ _ (.inr ⟨k6,k7⟩) ?_
   clear hKx Kx
   refine lxe HO (fun Kx hKx=> ?_)
   refine step_app_c 133 _ 1 24 Tryz.infoSEnt rfl _ _ 129 rfl Tryz.underlying129 rfl (by decide) (by decide) [slc ab C C] rfl sl2 w.heap.size av K xa _ _ rfl rfl (by ((try simp only [World.size_alloc,World.size_drew]);omega)) (by omega) (by (repeat first|(with_reducible exact ha7)|(with_reducible refine World.ownsRow.drew ?_)|(with_reducible refine World.ownsRow.alloc ?_ _))) (by first|((repeat first|(with_reducible refine row_one _ _ _ _ ?_;(first|(with_reducible rfl)|(simp;done)))|(with_reducible refine Row.drew ?_)|(with_reducible refine Row.alloc ?_ _));done)|(exact Row.mod (by (repeat first|(with_reducible refine row_one _ _ _ _ ?_;(first|(with_reducible rfl)|(simp;done)))|(with_reducible refine Row.drew ?_)|(with_reducible refine Row.alloc ?_ _))) hA.mod (by intro hx;have hxx:=nql _ hx;(first|omega|(simp only [World.size_alloc,World.size_drew] at hxx;omega))))) ?_;intro ga capa w8 hA2
   have r8:Row w8 sb 10 F:=Appd.row hA2 (by (repeat first|(with_reducible exact r7)|(with_reducible refine Row.drew ?_)|(with_reducible refine Row.alloc ?_ _))) (fun h=> na _ h rfl)
   have l8:=r8.lt
   have k8:w8.cell? ⟨sb,6,none⟩=some qv:=by rw [r8.cell (by omega),E6.out]
   have k9:w8.cell? ⟨sb,7,none⟩=some av:=by rw [r8.cell (by omega),E7.out]
   have z8:=r8.free 6
   have z9:=r8.free 7
   refine hKx _ _ (.inr ⟨k8,k9⟩) ?_
   clear hKx Kx
   (repeat (first|(refine lxp HO (v:=?_) (fun w'=> ?_) ?_;rotate_left;(focus (go_simp;(try exact rfl);done));try go_simp)|(refine lxr HO (v:=?_) (fun w' hC'=> ?_) ?_;rotate_left;(focus (obtain ⟨c6,c7⟩:=hC';go_simp;(try exact rfl);done));try go_simp)|(refine lxo HO ?_;try go_simp)))
   (refine lxe HO (fun K hK=> ?_);go_simp;refine hK _ _ (.inl (by rfl)) ?_;clear hK K)
   (repeat (first|(refine lxp HO (v:=?_) (fun w'=> ?_) ?_;rotate_left;(focus (go_simp;(try exact rfl);done));try go_simp)|(refine lxr HO (v:=?_) (fun w' hC'=> ?_) ?_;rotate_left;(focus (obtain ⟨c6,c7⟩:=hC';go_simp;(try exact rfl);done));try go_simp)|(refine lxo HO ?_;try go_simp)))
   (refine lxe HO (fun K hK=> ?_);go_simp;refine hK _ _ (.inl (by rfl)) ?_;clear hK K)
   refine wpL_nil ?_
   have M8:Mod (fun b=> b=sb) w8 (((w8.setCell ⟨sb,6,none⟩ (slc gq (K+1) capq))).setCell ⟨sb,7,none⟩ (slc ga (K+1) capa)):=((Mod.refl (fun b=> b=sb) w8).setCell (p:=⟨sb,6,none⟩) (.inr rfl) _).setCell (p:=⟨sb,7,none⟩) (.inr rfl) _
   have M78:Mod (fun b=> b=sb∨av.ownBlock=some b) w7 w8:=Mod.trans (by (repeat first|(with_reducible exact Mod.refl _ _)|(with_reducible refine Mod.drew ?_)|(with_reducible refine Mod.alloc ?_ _))) (hA2.mod.mono (fun b _ h=> .inr h)) (fun _ _ h=> h)
   have M7:=Mod.trans M78 (M8.mono (T:=fun b=> b=sb∨av.ownBlock=some b) (fun b _ h=> .inl h)) (fun _ _ h=> h)
   have M07:Mod (fun b=> b=sb∨qv.ownBlock=some b∨av.ownBlock=some b) wr w7:=Mod.trans (by (repeat first|(with_reducible exact Mod.refl _ _)|(with_reducible refine Mod.drew ?_)|(with_reducible refine Mod.alloc ?_ _))) (hA.mod.mono (T:=fun b=> b=sb∨qv.ownBlock=some b∨av.ownBlock=some b) (fun b _ h=> .inr (.inl h))) (fun _ _ h=> h)
   have M:=Mod.trans M07 (M7.mono (T:=fun b=> b=sb∨qv.ownBlock=some b∨av.ownBlock=some b) (fun b _ h=> h.imp id .inr)) (fun _ _ h=> h)
   have lq:=hA.lt
   have aq:=hA.at_
   have aa:=hA2.at_
   have zz:=hA2.mod.size
   simp only [World.size_alloc,World.size_drew] at aq aa zz
   have gqs:gq≠sb:=by rintro rfl;rcases aq with h|h;exact nq _ h rfl;omega
   have gas:ga≠sb:=by rintro rfl;rcases aa with h|h;exact na _ h rfl;omega
   have gqa:¬av.ownBlock=some gq:=fun h=> by rcases aq with h' |h';exact nqa _ h h';have:=(ha0.lt _ h).2;omega
   refine HQ.out _ _ _ _ _ _ _ _ _ _ _ _ _ _ _ _ _ _ _ _ gq ga capq capa _ M ?_ ?_ ?_ ?_ ?_ ?_
   ·exact (r8.set (i:=6) (by omega) _).set (i:=7) (by omega) _
   ·exact ownsRow_mod hA.own M7 (by rintro b hb (rfl|h);exact gqs (Option.some.inj hb);exact gqa (h.trans hb.symm))
   ·exact ownsRow_mod hA2.own M8 (by rintro b hb rfl;exact gas (Option.some.inj hb))
   ·exact aq.imp id (by omega)
   ·exact aa.imp id (by omega)
   ·rintro rfl;rcases aa with h|h;exact gqa h;omega
 case o2=>
  (refine lxe HO (fun K hK=> ?_);go_simp;refine hK _ _ ?_ ?_;all_goals clear hK K)
  ·refine .inr ⟨?_, ?_⟩ <;> go_simp
  (refine lxe HO (fun K hK=> ?_);go_simp;refine hK _ _ ?_ ?_;all_goals clear hK K)
  ·refine .inr ⟨?_, ?_⟩ <;> go_simp
  refine lxe HO (fun Kx hKx=> ?_)
  refine step_app_c 132 _ 1 24 Tryz.infoSPQ rfl _ _ 128 rfl Tryz.underlying128 rfl (by decide) (by decide) [slc qb C C] rfl sl1 w.heap.size qv K xq _ _ rfl rfl (by (simp;omega)) (by omega) (by (repeat first|(with_reducible exact hq0)|(with_reducible refine World.ownsRow.drew ?_)|(with_reducible refine World.ownsRow.alloc ?_ _))) (by (repeat first|(with_reducible refine row_one _ _ _ _ ?_;(first|(with_reducible rfl)|(simp;done)))|(with_reducible refine Row.drew ?_)|(with_reducible refine Row.alloc ?_ _))) ?_;intro gq capq w7 hA
  have ha7:w7.ownsRow w.heap.size 133 1 av K xa:=(ownsRow_mod (S:=fun b=> qv.ownBlock=some b) (by (repeat first|(with_reducible exact ha0)|(with_reducible refine World.ownsRow.drew ?_)|(with_reducible refine World.ownsRow.alloc ?_ _))) hA.mod nqa)
  have r7:Row w7 sb 10 F:=Appd.row hA (by (repeat first|(with_reducible exact hS)|(with_reducible refine Row.drew ?_)|(with_reducible refine Row.alloc ?_ _))) (fun h=> nq _ h rfl)
  have hz7:=hA.mod.size
  simp only [World.size_alloc,World.size_drew] at hz7
  have l7:=r7.lt
  have k6:w7.cell? ⟨sb,6,none⟩=some qv:=by rw [r7.cell (by omega),E6.out]
  have k7:w7.cell? ⟨sb,7,none⟩=some av:=by rw [r7.cell (by omega),E7.out]
  refine hKx _ _ (.inr ⟨k6,k7⟩) ?_
  clear hKx Kx
  refine lxe HO (fun Kx hKx=> ?_)
  refine step_app_c 133 _ 1 24 Tryz.infoSEnt rfl _ _ 129 rfl Tryz.underlying129 rfl (by decide) (by decide) [slc ab C C] rfl sl2 w.heap.size av K xa _ _ rfl rfl (by ((try simp only [World.size_alloc,World.size_drew]);omega)) (by omega) (by (repeat first|(with_reducible exact ha7)|(with_reducible refine World.ownsRow.drew ?_)|(with_reducible refine World.ownsRow.alloc ?_ _))) (by first|((repeat first|(with_reducible refine row_one _ _ _ _ ?_;(first|(with_reducible rfl)|(simp;done)))|(with_reducible refine Row.drew ?_)|(with_reducible refine Row.alloc ?_ _));done)|(exact Row.mod (by (repeat first|(with_reducible refine row_one _ _ _ _ ?_;(first|(with_reducible rfl)|(simp;done)))|(with_reducible refine Row.drew ?_)|(with_reducible refine Row.alloc ?_ _))) hA.mod (by intro hx;have hxx:=nql _ hx;(first|omega|(simp only [World.size_alloc,World.size_drew] at hxx;omega))))) ?_;intro ga capa w8 hA2
  have r8:Row w8 sb 10 F:=Appd.row hA2 (by (repeat first|(with_reducible exact r7)|(with_reducible refine Row.drew ?_)|(with_reducible refine Row.alloc ?_ _))) (fun h=> na _ h rfl)
  have l8:=r8.lt
  have k8:w8.cell? ⟨sb,6,none⟩=some qv:=by rw [r8.cell (by omega),E6.out]
  have k9:w8.cell? ⟨sb,7,none⟩=some av:=by rw [r8.cell (by omega),E7.out]
  have z8:=r8.free 6
  have z9:=r8.free 7
  refine hKx _ _ (.inr ⟨k8,k9⟩) ?_
  clear hKx Kx
  (repeat (first|(refine lxp HO (v:=?_) (fun w'=> ?_) ?_;rotate_left;(focus (go_simp;(try exact rfl);done));try go_simp)|(refine lxr HO (v:=?_) (fun w' hC'=> ?_) ?_;rotate_left;(focus (obtain ⟨c6,c7⟩:=hC';go_simp;(try exact rfl);done));try go_simp)|(refine lxo HO ?_;try go_simp)))
  (refine lxe HO (fun K hK=> ?_);go_simp;refine hK _ _ (.inl (by rfl)) ?_;clear hK K)
  (repeat (first|(refine lxp HO (v:=?_) (fun w'=> ?_) ?_;rotate_left;(focus (go_simp;(try exact rfl);done));try go_simp)|(refine lxr HO (v:=?_) (fun w' hC'=> ?_) ?_;rotate_left;(focus (obtain ⟨c6,c7⟩:=hC';go_simp;(try exact rfl);done));try go_simp)|(refine lxo HO ?_;try go_simp)))
  (refine lxe HO (fun K hK=> ?_);go_simp;refine hK _ _ (.inl (by rfl)) ?_;clear hK K)
  refine wpL_nil ?_
  have M8:Mod (fun b=> b=sb) w8 (((w8.setCell ⟨sb,6,none⟩ (slc gq (K+1) capq))).setCell ⟨sb,7,none⟩ (slc ga (K+1) capa)):=((Mod.refl (fun b=> b=sb) w8).setCell (p:=⟨sb,6,none⟩) (.inr rfl) _).setCell (p:=⟨sb,7,none⟩) (.inr rfl) _
  have M78:Mod (fun b=> b=sb∨av.ownBlock=some b) w7 w8:=Mod.trans (by (repeat first|(with_reducible exact Mod.refl _ _)|(with_reducible refine Mod.drew ?_)|(with_reducible refine Mod.alloc ?_ _))) (hA2.mod.mono (fun b _ h=> .inr h)) (fun _ _ h=> h)
  have M7:=Mod.trans M78 (M8.mono (T:=fun b=> b=sb∨av.ownBlock=some b) (fun b _ h=> .inl h)) (fun _ _ h=> h)
  have M07:Mod (fun b=> b=sb∨qv.ownBlock=some b∨av.ownBlock=some b) wr w7:=Mod.trans (by (repeat first|(with_reducible exact Mod.refl _ _)|(with_reducible refine Mod.drew ?_)|(with_reducible refine Mod.alloc ?_ _))) (hA.mod.mono (T:=fun b=> b=sb∨qv.ownBlock=some b∨av.ownBlock=some b) (fun b _ h=> .inr (.inl h))) (fun _ _ h=> h)
  have M:=Mod.trans M07 (M7.mono (T:=fun b=> b=sb∨qv.ownBlock=some b∨av.ownBlock=some b) (fun b _ h=> h.imp id .inr)) (fun _ _ h=> h)
  have lq:=hA.lt
  have aq:=hA.at_
  have aa:=hA2.at_
  have zz:=hA2.mod.size
  simp only [World.size_alloc,World.size_drew] at aq aa zz
  have gqs:gq≠sb:=by rintro rfl;rcases aq with h|h;exact nq _ h rfl;omega
  have gas:ga≠sb:=by rintro rfl;rcases aa with h|h;exact na _ h rfl;omega
  have gqa:¬av.ownBlock=some gq:=fun h=> by rcases aq with h' |h';exact nqa _ h h';have:=(ha0.lt _ h).2;omega
  refine HQ.out _ _ _ _ _ _ _ _ _ _ _ _ _ _ _ _ _ _ _ _ gq ga capq capa _ M ?_ ?_ ?_ ?_ ?_ ?_
  ·exact (r8.set (i:=6) (by omega) _).set (i:=7) (by omega) _
  ·exact ownsRow_mod hA.own M7 (by rintro b hb (rfl|h);exact gqs (Option.some.inj hb);exact gqa (h.trans hb.symm))
  ·exact ownsRow_mod hA2.own M8 (by rintro b hb rfl;exact gas (Option.some.inj hb))
  ·exact aq.imp id (by omega)
  ·exact aa.imp id (by omega)
  ·rintro rfl;rcases aa with h|h;exact gqa h;omega
end Go.Q
namespace Go.Q
open Go.RowKit Go.Proofs
set_option maxRecDepth 100000 in
set_option maxHeartbeats 4000000 in
theorem new4 (ops:Array Oper) (hops:(Tryz.f18.body.bind (regionOf 4))=some ops) (w W:World) (xb nb ncap C G:Nat) (cr:Int) (h2:C≤64) (par wt:Nat→Int) (t0 t2 t3 t4 t5 t6 t7 t8 t9 t10 t11 t12 t13 t14 t15 t16 t17 t18 t19 t20 t21 t22 t23 t24 t25 t26 t27 t28 t29 t30 t31 t32 t33 t34 t35 t36 t37 t38 t39 t40 t41 t42 t43 t44 t45 t46 t47 t48 t49 t50 t51 t52 t53 t54 t55 t56 t57 t58 t59 t60 t61 t62 t63 t64 t65 t66 t67 t68 t69 t70 t71 t72 t73 t74 t75 t76 t77 t78 t79 t80 t81 t82 t83 t84:Value) (Q:Exit→Act→World→Prop)
  (X3:Row W xb 3 (fl [.int .i64 C, .int .u64 cr,slc nb G ncap])) (R3:Row W nb (G * 2) (grp par wt)) (m3:Mod No w W)
  (hQ:∀ (v17 v18 v19 v21 v22 v25 v26 v28 v29:Value) (sb cb ub tb lb:Nat) (wx:World),Mod No w wx→Row wx xb 3 (fl [.int .i64 C, .int .u64 cr,slc nb G ncap])→Row wx nb (G * 2) (grp par wt)→
  Row wx sb 10 (fl [.int .i64 C, .int .u64 cr,slc nb G ncap,slc cb C C,slc ub C C, .map (some tb), .slice none 0 0, .slice none 0 0,slc lb C C, .int .i64 0])→
  Row wx cb C (ints fun _=> 0)→Row wx ub C (ints fun _=> 0)→Row wx lb C (ints fun _=> 0)→IMap wx .i64 tb []→
  (nb < sb∧nb < cb∧nb < ub∧nb < tb∧nb < lb∧cb < sb∧ub < sb∧tb < sb∧lb < sb∧cb≠ub∧cb≠tb∧cb≠lb∧ub≠tb∧ub≠lb∧tb≠lb)→Q .normal { tmps:= #[t0,ptr xb,t2,t3,ptr sb,t5,t6,t7,t8,t9,t10,t11,t12,t13,t14,t15,t16,v17,v18,v19,slc cb C C,v21,v22,slc ub C C, .map (some tb),v25,v26,slc lb C C,v28,v29,t30,t31,t32,t33,t34,t35,t36,t37,t38,t39,t40,t41,t42,t43,t44,t45,t46,t47,t48,t49,t50,t51,t52,t53,t54,t55,t56,t57,t58,t59,t60,t61,t62,t63,t64,t65,t66,t67,t68,t69,t70,t71,t72,t73,t74,t75,t76,t77,t78,t79,t80,t81,t82,t83,t84],defers:= [] } wx):
  (Code.region 4 ops true).wp Tryz.prog Q { tmps:= #[t0,ptr xb,t2,t3,t4,t5,t6,t7,t8,t9,t10,t11,t12,t13,t14,t15,t16,t17,t18,t19,t20,t21,t22,t23,t24,t25,t26,t27,t28,t29,t30,t31,t32,t33,t34,t35,t36,t37,t38,t39,t40,t41,t42,t43,t44,t45,t46,t47,t48,t49,t50,t51,t52,t53,t54,t55,t56,t57,t58,t59,t60,t61,t62,t63,t64,t65,t66,t67,t68,t69,t70,t71,t72,t73,t74,t75,t76,t77,t78,t79,t80,t81,t82,t83,t84],defers:= [] } W:=by
 have h2:Tryz.f18.body.bind (regionOf 4)=some _:=rfl
 rw [h2] at hops
 cases hops
 have c0:=X3.cL 0 _ (by omega) rfl
 have c1:=X3.cL 1 _ (by omega) rfl
 have c2:=X3.cL 2 _ (by omega) rfl
 have hmm:= @run_makeMap Tryz.prog
 have hms:=mk_fact (P:=Tryz.prog) 44 3 (.int .i64 0) 1 8 Tryz.underlying44 Tryz.infoInt C (by omega) (by omega)
 have lW:=X3.lt
 have lN:=R3.lt
 have HQ:=Lib.hid hQ
 clear hQ
 clear h2
 go_region_held3 (fun w' => w'.cell? ⟨xb,0,none⟩=some (.int .i64 C)∧w'.cell? ⟨xb,1,none⟩=some (.int .u64 cr)∧w'.cell? ⟨xb,2,none⟩=some (slc nb G ncap)) ((repeat' apply And.intro) <;> (go_simp;try ((repeat refine Lib.cell?_alloc_some _ ?_);assumption))) (fail)
 all_goals
  refine HQ.out _ _ _ _ _ _ _ _ _ _ _ _ _ _ _ ?m ?r1 ?r2 ?rs ?rc ?ru ?rl ?rt ?dd
  case rs=>
   refine Row.drew ?_
   refine row_newL' _ _ [_,_,_,_,_,_,_,_,_,_] _ ?_
   simp
  case m=> exact (((((m3.alloc _).alloc _).alloc _).alloc _).alloc _).drew
  case r1=> exact Row.drew (((((X3.alloc _).alloc _).alloc _).alloc _).alloc _)
  case r2=> exact Row.drew (((((R3.alloc _).alloc _).alloc _).alloc _).alloc _)
  case rc=> refine Row.drew ?_;repeat (first|(refine row_made' _ _ _ _ _ _ ?hb ?hh;(case hb=> (simp;done));(case hh=> (intro i _;simp [ints,Nat.mod_one])))|refine Row.alloc ?_ _)
  case ru=> refine Row.drew ?_;repeat (first|(refine row_made' _ _ _ _ _ _ ?hb ?hh;(case hb=> (simp;done));(case hh=> (intro i _;simp [ints,Nat.mod_one])))|refine Row.alloc ?_ _)
  case rl=> refine Row.drew ?_;repeat (first|(refine row_made' _ _ _ _ _ _ ?hb ?hh;(case hb=> (simp;done));(case hh=> (intro i _;simp [ints,Nat.mod_one])))|refine Row.alloc ?_ _)
  case rt=> refine IMap.drew ?_;repeat (first|(refine IMap.new' _ _ _ ?hb;(case hb=> (simp;done)))|refine IMap.alloc ?_ _)
  case dd=> omega
end Go.Q
namespace Go.Q
open Go.RowKit Go.Proofs
set_option maxRecDepth 100000 in
set_option maxHeartbeats 4000000 in
theorem schedNew (C:Nat) (cr:Int) (gb G cap:Nat) (par wt:Nat→Int) (h1:1≤C) (h2:C≤64) (h3:0≤cr) (h4:cr≤1099511627776) (T:Tree G par wt) (w:World) (hr:Row w gb (G * 2) (grp par wt)):
  Calls Tryz.prog 18 #[cfgv C cr gb G cap] w fun e w' => ∃ x B ow,e= .returned (.tuple #[ptr x, .int .i64 0])∧Mod No w w' ∧SAt w' ow x B (fresh C G cr par wt)∧(∀ b,ow b≠ .no→w.heap.size≤b):=by
 have lg:=hr.lt
 have k1:(1:Int)≤C:=by omega
 have k2:(C:Int)≤64:=by omega
 go_enter Tryz.func18,Tryz.ntmps18
 go_wp2_with fail
 refine (rightConfig_ok C cr gb G cap par wt k1 k2 h3 h4 T _ (hr.alloc _)).mono ?_;rintro e w1 ⟨rfl,hb1⟩
 have R1:Row w1 gb (G * 2) (grp par wt):=(hr.alloc _).below hb1 (by simp;omega)
 have X1:Row w1 w.heap.size 3 (fl [.int .i64 C, .int .u64 cr,slc gb G cap]):=Row.below (row_newL w [.int .i64 C, .int .u64 cr,slc gb G cap] 40) hb1 (by simp)
 have b2:=X1.cL 2 _ (by omega) rfl
 have f2:=X1.free 2
 go_wp2_with fail
 refine (cloneGroups gb G cap (grp par wt) _ R1 (by have:=T.g1;omega) (by have:=T.g2;omega) (fun i _=> by unfold grp;split <;> rfl)).mono ?_;rintro e w2 ⟨nb,ncap,rfl,g1,g2,g3,R2,m2⟩
 have X2:Row w2 w.heap.size 3 (fl [.int .i64 C, .int .u64 cr,slc gb G cap]):=X1.mod m2 (fun h=> h)
 have b2' :=X2.cL 2 _ (by omega) rfl
 have f2' :=X2.free 2
 clear b2 f2
 go_wp2
 refine wp_world (fun W=> Row W w.heap.size 3 (fl [.int .i64 C, .int .u64 cr,slc nb G ncap])∧Row W nb (G * 2) (grp par wt)∧Mod No w W) ?_ ?_
 ·refine ⟨?_, ?_, ?_⟩
  ·refine (X2.set (i:=2) (by omega) _).congr (fun i hi=> ?_)
   rcases (by omega:i=0∨i=1∨i=2) with rfl|rfl|rfl <;> rfl
  ·exact R2.setOther (by have:=hb1.size;simp at this;show w.heap.size≠nb;omega) _
  ·have hm1:Mod No w w2:=Mod.trans (Mod.trans ((Mod.refl No w).alloc _) (Mod.of_below hb1 No) (fun _ _ h=> h)) m2 (fun _ _ h=> h)
   exact hm1.setCell (.inl (Nat.le_refl _)) _
 intro W ⟨X3,R3,m3⟩
 have c0:=X3.cL 0 _ (by omega) rfl
 have c1:=X3.cL 1 _ (by omega) rfl
 have c2:=X3.cL 2 _ (by omega) rfl
 have lW:=X3.lt
 clear b2' f2' X1 X2 R1 R2
 go_upto_region 4 with fail
 refine new4 _ rfl w W w.heap.size nb ncap C G cr h2 par wt _ _ _ _ _ _ _ _ _ _ _ _ _ _ _ _ _ _ _ _ _ _ _ _ _ _ _ _ _ _ _ _ _ _ _ _ _ _ _ _ _ _ _ _ _ _ _ _ _ _ _ _ _ _ _ _ _ _ _ _ _ _ _ _ _ _ _ _ _ _ _ _ _ _ _ _ _ _ _ _ _ _ _ _ _ X3 R3 m3 ?_
 intro v17 v18 v19 v21 v22 v25 v26 v28 v29 sb cb ub tb lb W4 m4 X4 R4 S4 C4 U4 L4 T4 ⟨d1,d2,d3,d4,d5,d6,d7,d8,d9,d10,d11,d12,d13,d14,d15⟩
 clear c0 c1 c2
 have wl:w.heap.size≤W.heap.size:=m3.size
 have sl:=S4.lt
 have x0:=X4.cL 0 _ (by omega) rfl
 have x2:=X4.cL 2 _ (by omega) rfl
 have gg1:=T.g1
 have gg2:=T.g2
 have nw:w.heap.size < nb:=by have:=hb1.size;simp at this;omega
 have I0:∃ ow,NInv w W4 sb ⟨nb,ncap,cb,C,ub,C,tb,0,0,0,0,lb,C,0,fun _=> 0,fun _=> 0,fun _ _=> 0⟩ C G 0 cr par wt ow (.slice none 0 0) (.slice none 0 0)∧ow w.heap.size= .no:=by
  refine ⟨fun b=> if b=sb then .x else if b=nb then .gb else if b=cb then .cb else if b=ub then .ub else if b=lb then .lb else if b=tb then .tb else .no, ?_, ?_⟩
  ·have:=C4.lt;have:=U4.lt;have:=L4.lt;have:=T4.lt;have:=R4.lt
   refine ⟨⟨by simp,S4⟩,⟨?_,R4⟩,⟨?_,C4⟩,⟨?_,U4⟩,⟨?_,L4⟩,⟨?_,T4⟩,World.ownsRow_nil _ _ _ _,World.ownsRow_nil _ _ _ _,fun b hb=> by simp [Value.ownBlock] at hb,fun b hb=> by simp [Value.ownBlock] at hb,fun _ h=> by omega,fun _ h=> by omega,fun _ _ h=> by omega, ?_,m4⟩
   ·simp only [if_neg (show ¬nb=sb by omega),if_true]
   ·simp only [if_neg (show ¬cb=sb by omega),if_neg (show ¬cb=nb by omega),if_true]
   ·simp only [if_neg (show ¬ub=sb by omega),if_neg (show ¬ub=nb by omega),if_neg (show ¬ub=cb by omega),if_true]
   ·simp only [if_neg (show ¬lb=sb by omega),if_neg (show ¬lb=nb by omega),if_neg (show ¬lb=cb by omega),if_neg (show ¬lb=ub by omega),if_true]
   ·simp only [if_neg (show ¬tb=sb by omega),if_neg (show ¬tb=nb by omega),if_neg (show ¬tb=cb by omega),if_neg (show ¬tb=ub by omega),if_neg (show ¬tb=lb by omega),if_true]
   ·intro b hb
    split at hb
    ·omega
    split at hb
    ·omega
    split at hb
    ·omega
    split at hb
    ·omega
    split at hb
    ·omega
    split at hb
    ·omega
    exact absurd rfl hb
  ·simp only [if_neg (show ¬w.heap.size=sb by omega),if_neg (show ¬w.heap.size=nb by omega),if_neg (show ¬w.heap.size=cb by omega),if_neg (show ¬w.heap.size=ub by omega),if_neg (show ¬w.heap.size=lb by omega),if_neg (show ¬w.heap.size=tb by omega)]
 clear S4 R4 C4 U4 L4 T4
 go_wp2
 go_loopw [33] (fun v wr=> ∃ (K:Nat) (B:SB) (ow:Nat→Own) (qv av:Value),v= .int .i64 K∧K≤G∧NInv w wr sb B C G K cr par wt ow qv av∧ow w.heap.size= .no∧Row wr w.heap.size 3 (fl [.int .i64 C, .int .u64 cr,slc nb G ncap])∧B.gb=nb∧B.gcap=ncap) (fun v _=> G - (intOf v).toNat)
 case atStart=>
  obtain ⟨ow,I,i0⟩:=I0
  exact ⟨0,_,ow,_,_,by go_num,by omega,I,i0,X4,rfl,rfl⟩
 case round=>
  obtain ⟨K,B,ow,qv,av,rfl,hKG,I,i0,X5,hB,hB2⟩:=hrel
  clear I0 x0 x2 X4
  by_cases hK:K < G
  ·have i1:(K:Int) < G:=by omega
   have i2:(0:Int)≤K:=by omega
   have RG:=I.gb.2
   rw [hB] at RG
   have p0:=RG.cell (i:=K * 2) (by omega)
   have p1:=RG.cell (i:=K * 2+1) (by omega)
   rw [grp_even] at p0
   rw [grp_odd] at p1
   have y0:=X5.cL 0 _ (by omega) rfl
   have lX:=X5.lt
   have lw:w.heap.size≤wr.heap.size:=I.mod.size
   go_upto_region 8 with fail
   refine wp_world (fun W' => NInv w W' sb B C G K cr par wt ow qv av∧Row W' w.heap.size 3 (fl [.int .i64 C, .int .u64 cr,slc nb G ncap])∧Row W' wr.heap.size 2 (fl [.int .i64 (par K), .int .i64 (wt K)])∧Mod No wr W') ?_ ?_
   ·have hm:Mod No wr (wr.alloc (.cells #[.int .i64 (par K), .int .i64 (wt K)] 71)):=modX
    exact ⟨I.move hm (fun _ h=> False.elim h) (fun _ h=> False.elim h),X5.mod hm (fun h=> h),row_newL wr [_,_] _,hm⟩
   intro W5 ⟨I5,Y5,G5,m5⟩
   clear p0 p1 y0 X5 RG
   have z0:=Y5.cL 0 _ (by omega) rfl
   have lY:=Y5.lt
   have hms1:=mk_fact (P:=Tryz.prog) 132 134 _ 1 8 Tryz.underlying132 Tryz.infoPQ C (by omega) (by omega)
   have hms2:=mk_fact (P:=Tryz.prog) 133 138 _ 3 16 Tryz.underlying133 Tryz.infoEnt C (by omega) (by omega)
   go_cut [7,8] (fun s7 s8 wx=> ∃ qb ab,s7=slc qb C C∧s8=slc ab C C∧Mod No W5 wx∧Row wx qb C (fun _=> .pointer none)∧Row wx ab (C * 3) (asd (fun _=> (0,0)) 0)∧W5.heap.size≤qb∧W5.heap.size≤ab∧qb≠ab)
   case first=>
    go_region_held3 (fun w' => w'.cell? ⟨w.heap.size,0,none⟩=some (.int .i64 C)) ((go_simp;try ((repeat refine Lib.cell?_alloc_some _ ?_);assumption))) (fail)
    all_goals (go_wp2_with fail;go_meet)
    all_goals
     refine ⟨_,_,rfl,rfl, ?m, ?q, ?aa, ?l1, ?l2, ?d⟩
     case m=> exact (((Mod.refl No W5).alloc _).alloc _).drew
     case q=> refine Row.drew ?_;repeat (first|(refine row_made' _ _ _ _ _ _ ?hb ?hh;(case hb=> (simp;done));(case hh=> (intro i _;simp [Nat.mod_one])))|refine Row.alloc ?_ _)
     case aa=> refine Row.drew ?_;repeat (first|(refine row_made' _ _ _ _ _ _ ?hb ?hh;(case hb=> (simp;done));(case hh=> (intro i _;exact ent0 i)))|refine Row.alloc ?_ _)
     case l1=> omega
     case l2=> omega
     case d=> omega
   case rest=>
   obtain ⟨qb,ab,rfl,rfl,m6,Q6,A6,l6,l7,d0⟩:=hcut
   have I6:=I5.move m6 (fun _ h=> False.elim h) (fun _ h=> False.elim h)
   have Y6:=Y5.mod m6 (fun h=> h)
   have G6:=G5.mod m6 (fun h=> h)
   have wt1:=(T.wtOk K hK).1
   have wt2:=(T.wtOk K hK).2
   have nq:∀ b,w.heap.size≤b→b≥W5.heap.size→ow b= .no:=fun b _ hb=> Classical.byContradiction fun hn=> by have:=(I5.lt b hn).2;omega
   have l5:=m5.size
   have lq:=Q6.lt
   have la:=A6.lt
   have lG5:=G5.lt
   clear hms1 hms2 I5 Y5 G5 z0
   have d8:wr.heap.size≠qb:=by omega
   have d9:wr.heap.size≠ab:=by omega
   go_wp2
   go_loopw [45] (fun v wi=> ∃ (k:Nat) (ow' :Nat→Own) (qn:Nat→Nat),v= .int .i64 k∧k≤C∧Mod (fun b=> b=qb∨b=ab) wc wi∧Row wi qb C (fun c=> if c < k then ptr (qn c) else .pointer none)∧Row wi ab (C * 3) (asw (wt K) k)∧
    (∀ c,c < k→QAt wi ow' (.q K c) (qn c) (.e 0 0))∧(∀ b,b < wc.heap.size→ow' b=if b=qb then .qi K else if b=ab then .ai K else ow b)∧(∀ b,ow' b≠ .no→b < wi.heap.size)) (fun v _=> C - (intOf v).toNat)
   case atStart=>
    refine ⟨0,fun b=> if b=qb then .qi K else if b=ab then .ai K else ow b,fun _=> 0,by go_num,by omega,Mod.refl _ _,Q6.congr (fun i _=> by simp),A6.congr (fun i _=> asw_zero _ i),fun c h=> by omega,fun b _=> rfl,fun b hb=> ?_⟩
    dsimp only at hb
    split at hb
    ·omega
    split at hb
    ·omega
    exact (I6.lt b hb).2
   case round=>
    obtain ⟨k,ow',qn,rfl,hkC,mi,Qi,Ai,hq,ho,hl⟩:=hrel
    by_cases hk:k < C
    ·have j1:(k:Int) < C:=by omega
     have j2:(0:Int)≤k:=by omega
     clear hkC
     go_wp2_with fail
     refine (queueNew 65792 (by omega) (by omega) wr).mono ?_;rintro e w7 ⟨q,h,pb,eb,rfl,m7,e0,e1,e2,e3,f0,f1',f2,f3,X7⟩
     have Q7:=Qi.mod m7 (fun h=> h)
     have A7:=Ai.mod m7 (fun h=> h)
     have c0:=Q7.cell (i:=k) (by omega)
     have c1:=A7.cell (i:=k * 3+2) (by omega)
     have c2:=A7.cell (i:=k * 3+1) (by omega)
     have c3:=A7.cell (i:=k * 3) (by omega)
     have z0:=Q7.free k
     have z1:=A7.free (k * 3+2)
     have G7:=(G6.mod mi (by omega)).mod m7 (fun h=> h)
     have g0:=G7.cL 1 _ (by omega) rfl
     have d0' :=d0.symm
     have HX:=Lib.hid X7;clear X7
     go_wp2
     have X7:=HX.out
     have hz7:=m7.size
     refine ⟨⟨k+1,ext ow' wr w7 (.q K k),fun c=> if c=k then q else qn c,by go_num,by omega, ?_, ?_, ?_, ?_, ?_, ?_⟩, ?_⟩
     ·exact ((Mod.trans mi m7 (fun _ _ h=> False.elim h)).setCell (p:=⟨qb,k,none⟩) (.inr (.inl rfl)) _).setCell (p:=⟨ab,k * 3+2,none⟩) (.inr (.inr rfl)) _
     ·refine Row.setOther (Row.congr (Q7.set (i:=k) (by omega) _) (fun i hi=> ?_)) (by show ab≠qb;exact d0') _
      by_cases e:i=k
      ·subst e;simp
      ·simp only [if_neg e,show (i < k+1)=(i < k) from by apply propext;omega]
     ·exact Row.congr ((A7.setOther (p:=⟨qb,k,none⟩) (by show qb≠ab;exact d0) _).set (i:=k * 3+2) (by omega) _) (fun i _=> asw_succ _ _ _)
     ·have mS:Mod (fun b=> b=qb∨b=ab) w7 ((w7.setCell ⟨qb,k,none⟩ (ptr q)).setCell ⟨ab,k * 3+2,none⟩ (.int .u32 (wt K))):=
       ((Mod.refl _ w7).setCell (p:=⟨qb,k,none⟩) (.inr (.inl rfl)) _).setCell (p:=⟨ab,k * 3+2,none⟩) (.inr (.inr rfl)) _
      have lwr:wc.heap.size≤wr.heap.size:=mi.size
      intro c hc
      by_cases e:c=k
      ·subst e
       simp only [if_true]
       exact ⟨h,pb,eb,X7.mod mS (by omega) (by omega) (by omega) (by omega),ext_new e0 f0,ext_new e1 f1',ext_new e2 f2,ext_new e3 f3⟩
      ·simp only [if_neg e]
       refine QAt.mod (ow:=ow') (hq c (by omega)) (Mod.trans (m7.no (fun b=> b=qb∨b=ab)) mS (fun _ _ h=> h)) ?_ (fun b hb=> ext_old hb)
       rintro b eb' (rfl|rfl)
       ·rw [ho _ lq,if_pos rfl] at eb';simp at eb'
       ·rw [ho _ la,if_neg d0',if_pos rfl] at eb';simp at eb'
     ·intro b hb
      rw [ext_old (by have:=mi.size;omega),ho b hb]
     ·intro b hb
      simp only [World.size_setCell]
      unfold ext at hb
      split at hb
      ·have:=hl b hb;omega
      split at hb
      ·assumption
      exact absurd rfl hb
     ·simp [intOf];omega
    ·have j1:(C:Int)≤k:=by omega
     obtain rfl:C=k:=by omega
     have I7:=I6.move mi (by rintro b (rfl|rfl) <;> exact nq _ (by omega) (by omega)) (by rintro b (rfl|rfl) <;> omega)
     have Y7:=Y6.mod mi (by omega)
     have lwr:wc.heap.size≤wr.heap.size:=mi.size
     have I8:NInv w wr sb B C G K cr par wt ow' qv av:=by
      refine I7.own (fun b hb=> ?_) (fun b hb=> ⟨?_,hl b hb⟩)
      ·have:=(I6.lt b hb).2
       rw [ho b this,if_neg (by rintro rfl;exact hb (nq _ (by omega) (by omega))),if_neg (by rintro rfl;exact hb (nq _ (by omega) (by omega)))]
      ·by_cases hbc:b < wc.heap.size
       ·rw [ho b hbc] at hb
        split at hb
        ·omega
        split at hb
        ·omega
        exact (I6.lt b hb).1
       ·omega
     have n8:ow' w.heap.size= .no:=by rw [ho _ (by omega),if_neg (by omega),if_neg (by omega),i0]
     have oq:ow' qb= .qi K:=by rw [ho _ lq,if_pos rfl]
     have oa:ow' ab= .ai K:=by rw [ho _ la,if_neg d0.symm,if_pos rfl]
     have Q8:Row wr qb C (fun c=> ptr (qn c)):=Qi.congr (fun i hi=> by simp [hi])
     have A8:Row wr ab (C * 3) (asd (fun _=> (0,0)) (wt K)):=Ai.congr (fun i hi=> asw_full _ _ _ hi)
     clear I7 I6 Qi Ai Q6 A6 Y6 G6 mi hl ho I nq hkC
     have s6:=I8.row.2.cL 6 _ (by omega) rfl
     have s7:=I8.row.2.cL 7 _ (by omega) rfl
     have fs:=I8.row.2.free
     have f6:=fs 6
     have f7:=fs 7
     have ls:=I8.row.2.lt
     have lw8:w.heap.size≤wr.heap.size:=I8.mod.size
     have hq0:=I8.q
     have ha0:=I8.a
     go_upto_region 15 with fail
     clear fs
     have nq:∀ b,qv.ownBlock=some b→b≠sb:=by rintro b hb rfl;have:=I8.qown _ hb;rw [I8.row.1] at this;simp at this
     have na:∀ b,av.ownBlock=some b→b≠sb:=by rintro b hb rfl;have:=I8.aown _ hb;rw [I8.row.1] at this;simp at this
     have nqa:∀ b,av.ownBlock=some b→¬qv.ownBlock=some b:=fun b hb hb' => by have:=I8.aown _ hb;rw [I8.qown _ hb'] at this;simp at this
     clear s6 s7 f6 f7
     refine new15 _ rfl wr w sb qb ab C K qv av _ _ _ _ _ _ _ _ _ _ _ _ _ _ _ _ _ _ _ _ _ _ _ _ _ _ _ _ _ _ _ _ _ _ _ _ _ _ _ _ _ _ _ _ _ _ _ _ _ _ _ _ _ _ _ _ _ _ _ _ _ _ _ _ _ _ _ _ _ _ _ _ _ _ _ _ _ _ _ _ _ _ _ _ _ _ I8.row.2 rfl rfl hq0 ha0 (by omega) lw8 nq na nqa ?_
     intro y63 y64 y65 y66 y67 y68 y69 y70 y71 y72 y73 y74 y75 y76 y77 y78 y79 y80 y81 y82 gq ga capq capa W9 M9 R9 Oq Oa aq aa ne
     obtain ⟨ow9,I9,o9⟩:=I8.next oq oa Q8 A8 hq M9 R9 Oq Oa aq aa ne
     have Y9:Row W9 w.heap.size 3 (fl [.int .i64 C, .int .u64 cr,slc nb G ncap]):=Y7.mod M9 (by
      rintro (h|h|h)
      ·rw [h,I8.row.1] at n8;simp at n8
      ·have:=I8.qown _ h;rw [n8] at this;simp at this
      ·have:=I8.aown _ h;rw [n8] at this;simp at this)
     have n9:ow9 w.heap.size= .no:=by rw [o9 _ Y7.lt,n8]
     clear I8 hq0 ha0 Q8 A8 hq R9 Oq Oa Y7 M9
     go_wp2
     refine ⟨⟨K+1,_,ow9,_,_,by go_num,by omega,I9,n9,Y9,hB,hB2⟩,by simp only [intOf];omega⟩
  ·obtain rfl:K=G:=by omega
   have i1:(K:Int)≤(K:Int):=by omega
   go_wp2
   obtain ⟨B',S,hS⟩:=I.done (by omega)
   go_ret2
   exact ⟨sb,B',ow,rfl,I.mod,S,hS⟩
end Go.Q
namespace Go.Q
open Go.RowKit Go.Proofs
theorem copyRow {P:Program} (w:World) (dT sT ty elem:TypeId) (g b n dc sc:Nat) (F G:Nat→Value) (hu:P.underlying dT=some (.slice elem)) (hs:(P.info? elem).map (·.size)=some 1)
  (hg:Row w g n F) (hb:Row w b n G) (h1:∀ i,i < n→(G i).oneCell' =true):
  ∃ w',(Builtin.copy_ #[dT,sT] ty #[slc g n dc,slc b n sc]).run P w= .ok (goInt n) w' ∧Mod (fun x=> x=g) w w' ∧Row w' g n G:=by
 obtain ⟨cs,t,hgc,hsz,_⟩:=hg
 refine ⟨w.setRow g (cs.toList.take 0++(List.range n).map G++cs.toList.drop (0+n)).toArray, ?_, ?_, ?_⟩
 ·have:=run_copy_row (P:=P) w dT sT ty elem g 0 n dc ⟨b,0,none⟩ n sc cs t ((List.range n).map G) hu hs hgc (by simp) (fun j v hj=> by
   rw [List.getElem?_eq_some_iff] at hj
   obtain ⟨hl,e⟩:=hj
   simp only [List.getElem_map,List.getElem_range] at e
   have hl' :j < n:=by simpa using hl
   rw [←e]
   have:(⟨b,0,none⟩:Addr).add j=⟨b,j,none⟩:=by unfold Addr.add;split <;> simp_all
   rw [this,hb.cell hl']) (by simp;omega) (fun v hv=> by
   obtain ⟨i,hi,rfl⟩:=List.mem_map.1 hv
   exact h1 i (by simpa using hi))
  simpa using this
 ·refine ⟨rfl,rfl,rfl,by simp [World.setRow],fun k hk hne=> ?_⟩
  exact setRow_other w g k _ (fun e=> hne (by rw [e]))
 ·refine ⟨_,t,setRow_heap w g cs _ t _ hgc,by simp,fun i hi=> ?_⟩
  simp
  rw [List.getElem?_append_left (by simpa using hi)]
  simp [hi]
theorem wpList_copyRow {P:Program} {w:World} {ops:Array Oper} {rest:List Oper} {o:Oper} {a:Act} {Q:Exit→Act→World→Prop} (hgd:o.guard=none) (d s:Operand) (dT sT:TypeId)
  (ho:o.op= .call { callee:= .builtin .copy,args:= #[d,s],argTypes:= #[dT,sT] }) (elem:TypeId) (hu:P.underlying dT=some (.slice elem)) (hsz:(P.info? elem).map (·.size)=some 1)
  (g b n dc sc:Nat) (F G:Nat→Value) (hd:a.eval d=slc g n dc) (hs:a.eval s=slc b n sc) (hg:Row w g n F) (hb:Row w b n G) (h1:∀ i,i < n→(G i).oneCell' =true)
  (h:∀ w',Mod (fun x=> x=g) w w' →Row w' g n G→wpList P ops Q rest (a.put o.dst (goInt n)) w'):wpList P ops Q (o::rest) a w:=by
 refine wpList_plain hgd fun K hK=> ?_
 obtain ⟨w',hrun,hm,hr⟩:=copyRow (P:=P) w dT sT o.type elem g b n dc sc F G hu hsz hg hb h1
 unfold Oper.wp
 simp [execOp,ho,resolve,invoke,builtin,hd,hs,hrun,Result.andThen]
 exact hK _ _ (h w' hm hr)
theorem SAt.congr {w:World} {ow:Nat→Own} {x:Nat} {B:SB} {s:SSt} (h:SAt w ow x B s) (qs:Nat→Nat→QSt) (aside:Nat→Nat→Int×Int) (hq:∀ g c,g < s.G→c < s.C→s.qs g c=qs g c) (ha:∀ g c,g < s.G→c < s.C→s.aside g c=aside g c):
  SAt w ow x B { s with qs:=qs,aside:=aside }:=by
 refine ⟨fun t=> ?_,h.2⟩
 have:=h.1 t
 cases t with
 |q g c=> intro hg hc;have:=this hg hc;rw [hq g c hg hc] at this;exact this
 |ai g=>
  intro hg
  have:=this hg
  refine ⟨this.1,this.2.congr (fun i hi=> ?_)⟩
  have h3:i / 3 < s.C:=by omega
  simp only [asd,ha g _ hg h3]
 |_=> exact this
end Go.Q
