/- A part of the proof that TopGreat answers true: what some of the functions on its road compute. -/
import Derived.OrdersIn
import Derived.TacticsIn
import Derived.Lib.AppendZerosOnto
import Derived.Test.YtckddephdbhagaaGreatDoorQ1
import Derived.Test.YtckddephdbhagaaGreatDoorQ3
import Derived.Test.YtckddephdbhagaaGreatDoorQ5
import Derived.Test.YtckddephdbhagaaGreatDoorQ8
import Derived.Test.YtckddephdbhagaaGreatDoorQ15
set_option linter.unusedVariables false
set_option linter.unusedSimpArgs false
/- QLex's law inside a fence:a region that draws its order,within a range over a function. -/
namespace Go.Q
open Go.RowKit
section
variable {F:Fence} {n:Nat} {P:Program} {ops:Array Oper} {md:Region.Mode} {C:World→Prop} {es pu fx:List Nat} {Q:Exit→Act→World→Prop}
def YieldsI (P:Program) (ops:Array Oper) (C:World→Prop) (o:Oper) (v:Value) (a:Act):Prop:=
 ((Region.wanted o (yielded ops a.tmps)=true∧∀ w,C w→(execOp a.eval o).run P w= .ok (.value v) w)∨(Region.wanted o (yielded ops a.tmps)=false∧v=undef))∧∀ w,o.about P w a.eval=none
def effIn (F:Fence) (n:Nat) (P:Program) (ops:Array Oper) (o:Oper) (K:Act→World→Prop) (a:Act) (w:World):Prop:=
 if Region.wanted o (yielded ops a.tmps) then o.wpIn F n P a w K NoQ else (∀ f,o.about P w a.eval=some f→F.fn f)∧K (a.put o.dst undef) w
def wpAnyI (F:Fence) (n:Nat) (P:Program) (md:Region.Mode) (ops:Array Oper) (C:World→Prop) (es pu fx:List Nat) (Q:Exit→Act→World→Prop):Nat→Array Bool→Act→World→Prop
 |0,listed,a,w=> Region.ready md ops listed= []∧Q .normal a w
 |fuel+1,listed,a,w=>
  (Region.ready md ops listed= []→Q .normal a w)∧
  ∀ i∈Region.ready md ops listed,∃ o,ops[i]? =some o∧
   if i∈es then effIn F n P ops o (fun a' w' => (i∈fx∨C w')∧wpAnyI F n P md ops C es pu fx Q fuel (listed.setIfInBounds i true) a' w') a w
   else ∃ v,YieldsI P ops (fun w=> i∈pu∨C w) o v a∧wpAnyI F n P md ops C es pu fx Q fuel (listed.setIfInBounds i true) (a.put o.dst v) w
theorem wpIn_mono_all {o:Oper} {a:Act} {w:World} {K K' :Act→World→Prop} (h:∀ a w,K a w→K' a w) (hh:o.wpIn F n P a w K NoQ):o.wpIn F n P a w K' Q:=by
 unfold Oper.wpIn at *
 refine ⟨hh.1, ?_⟩
 have hh:=hh.2
 generalize (o.semAt F.round a.eval).run P w=r at *
 cases r with
 |ok x w' =>
  cases x <;> simp only [Oper.uponIn] at hh ⊢ <;>
   first
    |exact h _ _ hh
    |exact ⟨hh.1,CallsIn.mono hh.2 (fun e w'' he=> by cases e <;> first|exact h _ _ he|exact he.elim|(simp [LetsOut,NoQ] at he))⟩
    |exact ⟨hh.1,RowsIn.mono hh.2 (fun _ _ he=> h _ _ he)⟩
    |exact ⟨hh.1,RoundIn.mono hh.2 (fun e w'' he=> by cases e <;> first|exact h _ _ he|exact he.elim|(simp [LetsOut,NoQ] at he))⟩
 |halt x w' => cases x <;> simp only [Oper.uponIn,NoQ] at hh ⊢ <;> exact hh.elim
theorem effIn_mono {o:Oper} {a:Act} {w:World} {K K' :Act→World→Prop} (h:∀ a w,K a w→K' a w) (hh:effIn F n P ops o K a w):effIn F n P ops o K' a w:=by
 unfold effIn at *
 split
 ·rename_i hw;rw [if_pos hw] at hh;exact wpIn_mono_all h hh
 ·rename_i hw;rw [if_neg hw] at hh;exact ⟨hh.1,h _ _ hh.2⟩
theorem wpOpIn_of_eff {i:Nat} {o:Oper} {a:Act} {w:World} {K:Act→World→Prop} (ho:ops[i]? =some o) (h:effIn F n P ops o K a w):wpOpIn F n P ops Q i K a w:=by
 unfold wpOpIn effIn at *
 simp only [ho]
 split
 ·rename_i hw;rw [if_pos hw] at h;exact wpIn_mono_all (fun _ _ h=> h) h
 ·rename_i hw;rw [if_neg hw] at h;exact h
theorem YieldsI.wpOpIn {i:Nat} {o:Oper} {v:Value} {a:Act} {w:World} (hro:F.round=none) (hi:ops[i]? =some o) (hy:YieldsI P ops C o v a) (hc:C w)
  {K:Act→World→Prop} (h:K (a.put o.dst v) w):wpOpIn F n P ops Q i K a w:=by
 unfold Go.wpOpIn
 simp only [hi]
 have hab:∀ f,o.about P w a.eval=some f→F.fn f:=fun f hf=> by rw [hy.2 w] at hf;cases hf
 rcases hy.1 with ⟨hw,hv⟩|⟨hw,rfl⟩
 ·simp only [hw,if_true,Oper.wpIn,hro,Oper.semAt_none,hv w hc,Oper.uponIn];exact ⟨hab,h⟩
 ·simp only [hw,Bool.false_eq_true,if_false];exact ⟨hab,h⟩
theorem YieldsI.of_same {o:Oper} {v:Value} {a a' :Act} (hy:YieldsI P ops C o v a) (he:execOp a'.eval o=execOp a.eval o)
  (hw:Region.wanted o (yielded ops a'.tmps)=Region.wanted o (yielded ops a.tmps)) (hb:∀ w,o.about P w a'.eval=o.about P w a.eval):YieldsI P ops C o v a' :=by
 unfold YieldsI at *
 rw [he,hw]
 exact ⟨hy.1,fun w=> by rw [hb w];exact hy.2 w⟩
theorem wpAnyIn_of_I (hro:F.round=none) (hfx:∀ i∈fx,∀ oi,ops[i]? =some oi→∀ j,j < ops.size→j∉es→j∉pu→∃ e∈oi.after,Region.binds md e=true∧e.on=j):∀ (fuel:Nat) (listed:Array Bool) (a:Act) (w:World),Safe ops C es pu listed w→wpAnyI F n P md ops C es pu fx Q fuel listed a w→wpAnyIn F n P md ops Q fuel listed a w
 |0,_,_,_,_,h=> ⟨h.1,h.2⟩
 |fuel+1,listed,a,w,hS,h=> ⟨h.1,fun i hi=> by
   obtain ⟨o,ho,hr⟩:=h.2 i hi
   split at hr
   ·refine wpOpIn_of_eff ho (effIn_mono (fun a' w' hh=> wpAnyIn_of_I hro hfx fuel _ a' w' ?_ hh.2) hr)
    rcases hh.1 with hf|hc
    ·refine .inr (fun j hj he hp=> getD_set_true' ?_)
     obtain ⟨e,hem,hb,rfl⟩:=hfx i hf o ho j hj he hp
     obtain ⟨_,o2,ho2,hall⟩:=mem_ready.1 hi
     obtain rfl:o=o2:=Option.some.inj (ho.symm.trans ho2)
     have:=hall e hem hb
     simp only [Array.getD_eq_getD_getElem?] at this ⊢
     cases hg:listed[e.on]? with
     |none=> rfl
     |some b=> rw [hg] at this;simpa using this
    ·exact .inl hc
   ·rename_i hie
    obtain ⟨v,hy,hh⟩:=hr
    have hc:i∈pu∨C w:=by
     by_cases hp:i∈pu
     ·exact .inl hp
     ·rcases hS with hc|hall
      ·exact .inr hc
      ·obtain ⟨h0,o2,ho2,_⟩:=mem_ready.1 hi
       have:=hall i (Array.getElem?_eq_some_iff.1 ho2).1 hie hp
       rw [h0] at this;cases this
    exact hy.wpOpIn (K:=fun a' w' => wpAnyIn F n P md ops Q fuel (listed.setIfInBounds i true) a' w') hro ho hc (wpAnyIn_of_I hro hfx fuel _ _ w (hS.set i) hh)⟩
theorem eff_put {oi oj:Oper} {v:Value} (hro:F.round=none) (hap:oi.apart ops oj=true) (hsi:∀ cs b,oi.op≠ .select cs b) (hsj:∀ cs b,oj.op≠ .select cs b) {K:Act→World→Prop} {a:Act} {w:World}
  (hy:YieldsI P ops C oi v a) (h:effIn F n P ops oj K (a.put oi.dst v) w):effIn F n P ops oj (fun a' w' => YieldsI P ops C oi v a' ∧K (a'.put oi.dst v) w') a w:=by
 obtain ⟨h1,h2,h3⟩:=Oper.apart_spec hap
 have keep:∀ (a:Act),YieldsI P ops C oi v a→∀ u,YieldsI P ops C oi v (a.put oj.dst u):=fun a hy u=>
  hy.of_same (execOp_put oi hsi a oj.dst u h3) (wanted_put oi a oj.dst u h3) (fun w=> about_put oi w a oj.dst u h3)
 have keepD:∀ d,YieldsI P ops C oi v { a with defers:=d::a.defers }:=fun d=> hy.of_same rfl rfl (fun _=> rfl)
 unfold effIn at *
 rw [wanted_put oj a oi.dst v h1,about_put oj w a oi.dst v h1] at h
 split
 ·rename_i hw
  simp only [hw,if_true] at h
  unfold Oper.wpIn at *
  rw [about_put oj w a oi.dst v h1] at h
  refine ⟨h.1, ?_⟩
  have h:=h.2
  rw [hro,Oper.semAt_none,execOp_put oj hsj a oi.dst v h1] at h
  rw [hro,Oper.semAt_none]
  generalize (execOp a.eval oj).run P w=r at *
  cases r with
  |ok x w' =>
   cases x <;> simp only [Oper.uponIn] at h ⊢
   case value u=> exact ⟨keep a hy u,by rw [←Act.put_comm a v u h2];exact h⟩
   case skip=> exact ⟨keep a hy _,by rw [←Act.put_comm a v undef h2];exact h⟩
   case defer d=>
    refine ⟨keep _ (keepD d) _, ?_⟩
    rw [←Act.put_comm _ v undef h2,←Act.put_defers]
    exact h
   case enter f args=>
    refine ⟨h.1,CallsIn.mono h.2 fun e w'' he=> ?_⟩
    cases e with
    |returned u=> exact ⟨keep a hy u,by rw [←Act.put_comm a v u h2];exact he⟩
    |panicked c=> exact he.elim
    |outgrown=> exact (by simp [LetsOut,NoQ] at he)
   case row row args=> exact ⟨h.1,RowsIn.mono h.2 fun u w'' he=> ⟨keep a hy u,by rw [←Act.put_comm a v u h2];exact he⟩⟩
   case round l f tmps assign body=>
    refine ⟨h.1,RoundIn.mono h.2 fun e w'' he=> ?_⟩
    cases e with
    |returned u=> exact ⟨keep a hy u,by rw [←Act.put_comm a v u h2];exact he⟩
    |panicked c=> exact he.elim
    |outgrown=> exact (by simp [LetsOut,NoQ] at he)
   all_goals exact h.elim
  |halt x w' =>
   cases x <;> simp only [Oper.uponIn] at h ⊢ <;> exact h.elim
 ·rename_i hw
  simp only [hw] at h
  exact ⟨h.1,keep a hy _,by rw [←Act.put_comm a v undef h2];exact h.2⟩
theorem wpAnyI_first {i:Nat} {oi:Oper} {v:Value} (hro:F.round=none) (hi:ops[i]? =some oi) (hsel:∀ (j:Nat) (o:Oper) cs b,ops[j]? =some o→o.op≠ .select cs b) (hie:i∉es):
  ∀ (fuel:Nat) (listed:Array Bool) (a:Act) (w:World),
   (∀ j oj,ops[j]? =some oj→j≠i→listed.getD j true=false→(∀ e∈oj.after,Region.binds md e=true→e.on≠i)→oi.apart ops oj=true)→
   i∈Region.ready md ops listed→YieldsI P ops (fun w=> i∈pu∨C w) oi v a→
   wpAnyI F n P md ops C es pu fx Q fuel (listed.setIfInBounds i true) (a.put oi.dst v) w→wpAnyI F n P md ops C es pu fx Q (fuel+1) listed a w:=by
 intro fuel
 induction fuel with
 |zero=>
  intro listed a w _ hr hy H
  refine ⟨fun h=> (by rw [h] at hr;cases hr),fun j hj=> ?_⟩
  by_cases hji:j=i
  ·subst hji;exact ⟨oi,hi,by rw [if_neg hie];exact ⟨v,hy,H⟩⟩
  ·have:=ready_mono hj hji
   rw [H.1] at this
   cases this
 |succ fuel ih=>
  intro listed a w hfree hr hy H
  refine ⟨fun h=> (by rw [h] at hr;cases hr),fun j hj=> ?_⟩
  by_cases hji:j=i
  ·subst hji;exact ⟨oi,hi,by rw [if_neg hie];exact ⟨v,hy,H⟩⟩
  ·obtain ⟨oj',hoj',h1⟩:=H.2 j (ready_mono hj hji)
   obtain ⟨hjun,oj,hoj,hall⟩:=mem_ready.1 hj
   obtain rfl:oj' =oj:=Option.some.inj (hoj'.symm.trans hoj)
   have hnot:∀ e∈oj'.after,Region.binds md e=true→e.on≠i:=fun e he hb heq=> by
    have h1:=hall e he hb
    have h0:=(mem_ready.1 hr).1
    rw [heq] at h1
    rcases Nat.lt_or_ge i listed.size with h' |h'
    ·simp [h'] at h0 h1;rw [h0] at h1;cases h1
    ·simp [Array.getElem?_eq_none h'] at h1
   have hap:=hfree j oj' hoj hji hjun hnot
   have hfree' :∀ k ok,ops[k]? =some ok→k≠i→(listed.setIfInBounds j true).getD k true=false→
     (∀ e∈ok.after,Region.binds md e=true→e.on≠i)→oi.apart ops ok=true:=fun k ok hk hki hun hno=> by
    refine hfree k ok hk hki ?_ hno
    by_cases hjk:j=k
    ·subst hjk;exact hjun
    ·rw [getD_set_ne true hjk] at hun;exact hun
   have hri:=ready_mono hr (Ne.symm hji)
   have hcomm:(listed.setIfInBounds j true).setIfInBounds i true=(listed.setIfInBounds i true).setIfInBounds j true:=Array.setIfInBounds_comm _ _ hji
   obtain ⟨a1,a2,a3⟩:=Oper.apart_spec hap
   have keep:∀ u,YieldsI P ops (fun w=> i∈pu∨C w) oi v (a.put oj'.dst u):=fun u=>
    hy.of_same (execOp_put oi (fun cs b=> hsel i oi cs b hi) a oj'.dst u a3) (wanted_put oi a oj'.dst u a3) (fun w=> about_put oi w a oj'.dst u a3)
   refine ⟨oj',hoj, ?_⟩
   by_cases hje:j∈es
   ·rw [if_pos hje] at h1 ⊢
    refine effIn_mono (fun a' w' hh=> ?_) (eff_put hro hap (fun cs b=> hsel i oi cs b hi) (fun cs b=> hsel j oj' cs b hoj) hy h1)
    exact ⟨hh.2.1,ih _ a' w' hfree' hri hh.1 (by rw [hcomm];exact hh.2.2)⟩
   ·rw [if_neg hje] at h1 ⊢
    obtain ⟨u,hyu,hh⟩:=h1
    refine ⟨u,hyu.of_same (execOp_put oj' (fun cs b=> hsel j oj' cs b hoj) a oi.dst v a1).symm (wanted_put oj' a oi.dst v a1).symm (fun w=> (about_put oj' w a oi.dst v a1).symm), ?_⟩
    exact ih _ _ w hfree' hri (keep u) (by rw [hcomm,←Act.put_comm a v u a2];exact hh)
def effI (F:Fence) (n:Nat) (P:Program) (ops:Array Oper) (C:World→Prop) (fx:List Nat) (k:Nat) (X:Act→World→Prop) (a:Act) (w:World):Prop:=
 ∃ o,ops[k]? =some o∧effIn F n P ops o (fun a' w' => (k∈fx∨C w')∧X a' w') a w
def wpLI (F:Fence) (n:Nat) (P:Program) (ops:Array Oper) (C:World→Prop) (pu fx:List Nat) (Q:Exit→Act→World→Prop):Ord→Act→World→Prop
 | .nil,a,w=> Q .normal a w
 | .rd k t,a,w=> ∃ o,ops[k]? =some o∧∃ v,YieldsI P ops (fun w=> k∈pu∨C w) o v a∧wpLI F n P ops C pu fx Q t (a.put o.dst v) w
 | .ef k t,a,w=> effI F n P ops C fx k (wpLI F n P ops C pu fx Q t) a w
 | .ef2 k t k' t',a,w=> effI F n P ops C fx k (wpLI F n P ops C pu fx Q t) a w∧effI F n P ops C fx k' (wpLI F n P ops C pu fx Q t') a w
 | .ef3 _ _ _ _ _ _,_,_=> False
theorem eff_ofI {k m:Nat} {listed:Array Bool} {a:Act} {w:World} {X:Act→World→Prop} (hk:k∈es) (hX:∀ a w,X a w→wpAnyI F n P md ops C es pu fx Q m (listed.setIfInBounds k true) a w) (h:effI F n P ops C fx k X a w):
  ∃ o,ops[k]? =some o∧if k∈es then effIn F n P ops o (fun a' w' => (k∈fx∨C w')∧wpAnyI F n P md ops C es pu fx Q m (listed.setIfInBounds k true) a' w') a w
   else ∃ v,YieldsI P ops (fun w=> k∈pu∨C w) o v a∧wpAnyI F n P md ops C es pu fx Q m (listed.setIfInBounds k true) (a.put o.dst v) w:=by
 obtain ⟨o,ho,h⟩:=h
 exact ⟨o,ho,by rw [if_pos hk];exact effIn_mono (fun a w hh=> ⟨hh.1,hX _ _ hh.2⟩) h⟩
theorem wpAnyI_of (hro:F.round=none) (hs:Region.noSelect ops=true):∀ (ord:Ord) (listed:Array Bool) (a:Act) (w:World),chainB md ops es ord listed=true→wpLI F n P ops C pu fx Q ord a w→wpAnyI F n P md ops C es pu fx Q ord.len listed a w
 | .nil,_,_,_,hB,h=> ⟨by simpa [chainB] using hB,h⟩
 | .rd k t,listed,a,w,hB,h=> by
  obtain ⟨o,ho,v,hy,hh⟩:=h
  simp only [chainB,Bool.and_eq_true,Bool.not_eq_true'] at hB
  obtain ⟨⟨⟨hr,hk⟩,hf⟩,hB'⟩:=hB
  exact wpAnyI_first hro ho (Region.noSelect_spec hs) (by simpa using hk) t.len listed a w (Region.free_spec ho hf) (by simpa using hr) hy (wpAnyI_of hro hs t _ _ w hB' hh)
 | .ef k t,listed,a,w,hB,h=> by
  simp only [chainB,Bool.and_eq_true] at hB
  obtain ⟨⟨hf,hk⟩,hB'⟩:=hB
  have hf' :Region.ready md ops listed= [k]:=by simpa using hf
  refine ⟨fun h=> (by rw [hf'] at h;cases h),fun j hj=> ?_⟩
  rw [hf'] at hj
  obtain rfl:j=k:=by simpa using hj
  exact eff_ofI (by simpa using hk) (fun a' w' hh=> wpAnyI_of hro hs t _ a' w' hB' hh) h
 | .ef2 k t k' t',listed,a,w,hB,h=> by
  simp only [chainB,Bool.and_eq_true] at hB
  obtain ⟨⟨⟨⟨⟨hf,hk⟩,hk'⟩,hB1⟩,hB2⟩,hl⟩:=hB
  have hf' :Region.ready md ops listed= [k,k']:=by simpa using hf
  have hl' :t.len=t'.len:=by simpa using hl
  refine ⟨fun h=> (by rw [hf'] at h;cases h),fun j hj=> ?_⟩
  rw [hf'] at hj
  rcases (by simpa using hj:j=k∨j=k') with rfl|rfl
  ·exact eff_ofI (by simpa using hk) (fun a' w' hh=> wpAnyI_of hro hs t _ a' w' hB1 hh) h.1
  ·exact eff_ofI (by simpa using hk') (fun a' w' hh=> by have:=wpAnyI_of hro hs t' _ a' w' hB2 hh;rw [←hl'] at this;exact this) h.2
 | .ef3 _ _ _ _ _ _,_,_,_,_,h=> h.elim
theorem wpIn_region_chain {id:Nat} {a:Act} {w:World} (C:World→Prop) (es pu fx:List Nat) (ord:Ord) (hro:F.round=none) (hm:P.follows .mixedOrders=true)
  (hB:(Region.noSelect ops && ord.len==ops.size && fxB .any ops es pu fx && chainB .any ops es ord (Array.replicate ops.size false))=true) (hC:C w.drew) (h:∀ ops',ops' =ops→wpLI F n P ops' C pu fx Q ord a w.drew):(Code.region id ops true).wpIn F n P Q a w:=by
 have h:=h ops rfl
 simp only [Bool.and_eq_true,beq_iff_eq] at hB
 obtain ⟨⟨⟨h1,h2⟩,h4⟩,h3⟩:=hB
 refine wpIn_region_any hm ?_
 have:=wpAnyIn_of_I hro (fxB_spec h4) _ _ _ _ (.inl hC) (wpAnyI_of (F:=F) (n:=n) (P:=P) (C:=C) (Q:=Q) (pu:=pu) (fx:=fx) hro h1 ord _ a w.drew h3 h)
 rw [h2] at this
 exact this
theorem wpLI_nil {a:Act} {w:World} (h:Q .normal a w):wpLI F n P ops C pu fx Q .nil a w:=h
theorem wpLI_read {k:Nat} {t:Ord} {a:Act} {w:World} {o:Oper} {v:Value} (ho:ops[k]? =some o) (hp:pu.contains k=false) (hw:Region.wanted o (yielded ops a.tmps)=true) (hab:∀ w,o.about P w a.eval=none)
  (h1:∀ w',C w' →(execOp a.eval o).run P w' = .ok (.value v) w') (h2:wpLI F n P ops C pu fx Q t (a.put o.dst v) w):wpLI F n P ops C pu fx Q (.rd k t) a w:=
 ⟨o,ho,v,⟨.inl ⟨hw,fun w' hw' => h1 w' (hw'.resolve_left (by simpa using hp))⟩,hab⟩,h2⟩
theorem wpLI_pure {k:Nat} {t:Ord} {a:Act} {w:World} {o:Oper} {v:Value} (ho:ops[k]? =some o) (hw:Region.wanted o (yielded ops a.tmps)=true) (hab:∀ w,o.about P w a.eval=none)
  (h1:∀ w',(execOp a.eval o).run P w' = .ok (.value v) w') (h2:wpLI F n P ops C pu fx Q t (a.put o.dst v) w):wpLI F n P ops C pu fx Q (.rd k t) a w:=
 ⟨o,ho,v,⟨.inl ⟨hw,fun w' _=> h1 w'⟩,hab⟩,h2⟩
theorem wpLI_off {k:Nat} {t:Ord} {a:Act} {w:World} {o:Oper} (ho:ops[k]? =some o) (hw:Region.wanted o (yielded ops a.tmps)=false) (hab:∀ w,o.about P w a.eval=none)
  (h2:wpLI F n P ops C pu fx Q t (a.put o.dst undef) w):wpLI F n P ops C pu fx Q (.rd k t) a w:=
 ⟨o,ho,undef,⟨.inr ⟨hw,rfl⟩,hab⟩,h2⟩
theorem wpLI_eff {k:Nat} {t:Ord} {a:Act} {w:World} {o:Oper} (ho:ops[k]? =some o)
  (h:∀ K:Act→World→Prop,(∀ a w,(fx.contains k=true∨C w)→wpLI F n P ops C pu fx Q t a w→K a w)→if Region.wanted o (yielded ops a.tmps)=true then Oper.wpIn F n P o a w K NoQ else False):wpLI F n P ops C pu fx Q (.ef k t) a w:=by
 have:=h (fun a' w' => (k∈fx∨C w')∧wpLI F n P ops C pu fx Q t a' w') (fun _ _ h1 h2=> ⟨h1.imp (by simp) id,h2⟩)
 refine ⟨o,ho, ?_⟩
 unfold effIn
 split
 ·rename_i hw;rw [if_pos hw] at this;exact this
 ·rename_i hw;rw [if_neg hw] at this;exact this.elim
end
attribute [irreducible] wpLI effI
end Go.Q
namespace Go.Q
open Go.RowKit
structure AppM (W W1:World) (B:Nat) (e:TypeId) (size:Nat) (v:Value) (n m:Nat) (xs cs:List Value) (g cap:Nat):Prop where
 own:W1.ownsRow B e size (.slice (some ⟨g,0,none⟩) (n+m) cap) (n+m) (xs++cs)
 mod:Mod (fun b=> v.ownBlock=some b) W W1
 at_:v.ownBlock=some g∨W.heap.size≤g
 lt:g < W1.heap.size
 base:B≤g
theorem news_rowM {w:World} {b N:Nat} {cs:List Value} (hr:Row w b N (fl cs)) (hl:cs.length≤N):∀ (j:Nat) (u:Value),cs[j]? =some u→w.cell? ((⟨b,0,none⟩:Addr).add j)=some u:=by
 intro j u hj
 have hjl:j < cs.length:=(List.getElem?_eq_some_iff.1 hj).1
 rw [Addr.add_lit,Nat.zero_add,hr.cell (by omega),fl,List.getD_eq_getElem?_getD,hj]
 rfl
section
variable {F:Fence} {nF:Nat} {P:Program} {W:World} {ops:Array Oper} {rest:List Oper} {o:Oper} {a:Act} {Q:Exit→Act→World→Prop} {K:Act→World→Prop} {E:Prop}
theorem appM_of {e:TypeId} {size B:Nat} {v:Value} {n m:Nat} {xs cs:List Value} {g cap:Nat} {w1:World} (hB:B≤W.heap.size) (hown0:W.ownsRow B e size v n xs)
  (hown:w1.ownsRow B e size (.slice (some ⟨g,0,none⟩) (n+m) cap) (n+m) (xs++cs)) (hgrow:W.grownBy w1 v.ownBlock) (hat:v.ownBlock=some g∨g=W.heap.size) (hlt:g < w1.heap.size):AppM W w1 B e size v n m xs cs g cap:=by
 have hgs:=hgrow.size
 refine ⟨hown,⟨hgrow.os,hgrow.tape,hgrow.output,by omega,fun b hb hne=> hgrow.block b hb (fun e=> hne e.symm)⟩,hat.imp id (by omega),hlt, ?_⟩
 rcases hat with hat|rfl
 ·exact (hown0.lt g hat).1
 ·omega
theorem wpList_app_m (e:TypeId) (z:Value) (size bytes:Nat) (hinfo:(P.info? e).map (fun i=> (i.zero,i.size,i.bytes))=some (some z,size,bytes)) (hgd:o.guard=none) (s x:Operand) (t:TypeId) (ho:o.op= .call { callee:= .builtin .append,args:= #[s,x],argTypes:= #[t,t] })
  (ht:P.underlying t=some (.slice e)) (hzs:z.cells.size=size) (hsz:0 < size) (hbb:bytes≤1000)
  (m:Nat) (cs:List Value) (hl:cs.length=m * size) (h1:∀ u∈cs,u.oneCell' =true) (B:Nat) (v:Value) (n:Nat) (xs:List Value) (b c:Nat) (hs:a.eval s=v) (hx:a.eval x= .slice (some ⟨b,0,none⟩) m c) (hm:0 < m) (hB:B≤W.heap.size) (hn:n+m≤1000000000) (hown0:W.ownsRow B e size v n xs) (hr:Row W b (m * size) (fl cs))
  (h:∀ g cap w1,AppM W w1 B e size v n m xs cs g cap→wpList P ops Q rest (a.put o.dst (.slice (some ⟨g,0,none⟩) (n+m) cap)) w1):wpList P ops Q (o::rest) a W:=by
 obtain ⟨i,hi,hz,hsize,hby⟩:=info_parts hinfo
 exact wpList_append_lies _ hgd s x t ho B e i z size bytes ht hi hz hsize hby hzs hsz _ n xs hs hown0 ⟨b,0,none⟩ m c cs hx hl (news_rowM hr (by omega)) h1 hm (by simp only [maxLen];omega) (by have:(n+m) * bytes≤1000000000 * 1000:=Nat.mul_le_mul (by omega) hbb;omega) hB _ rfl
  fun g cap w1 h2 h3 h4 h5=> h g cap w1 (appM_of hB hown0 h2 h3 h4 h5)
theorem wpListIn_app_m (e:TypeId) (z:Value) (size bytes:Nat) (hinfo:(P.info? e).map (fun i=> (i.zero,i.size,i.bytes))=some (some z,size,bytes)) (hgd:o.guard=none) (s x:Operand) (t:TypeId) (ho:o.op= .call { callee:= .builtin .append,args:= #[s,x],argTypes:= #[t,t] })
  (ht:P.underlying t=some (.slice e)) (hzs:z.cells.size=size) (hsz:0 < size) (hbb:bytes≤1000)
  (m:Nat) (cs:List Value) (hl:cs.length=m * size) (h1:∀ u∈cs,u.oneCell' =true) (B:Nat) (v:Value) (n:Nat) (xs:List Value) (b c:Nat) (hs:a.eval s=v) (hx:a.eval x= .slice (some ⟨b,0,none⟩) m c) (hm:0 < m) (hB:B≤W.heap.size) (hn:n+m≤1000000000) (hown0:W.ownsRow B e size v n xs) (hr:Row W b (m * size) (fl cs))
  (h:∀ g cap w1,AppM W w1 B e size v n m xs cs g cap→wpListIn F nF P ops Q rest (a.put o.dst (.slice (some ⟨g,0,none⟩) (n+m) cap)) w1):wpListIn F nF P ops Q (o::rest) a W:=by
 obtain ⟨i,hi,hz,hsize,hby⟩:=info_parts hinfo
 refine wpListIn_plain hgd fun K hK=> ?_
 obtain ⟨g,cap,w',hrun,h2,h3,h4,h5⟩:=run_append_lies (P:=P) W t o.type B e i z size bytes ht hi hz hsize hby hzs hsz v n xs hown0 ⟨b,0,none⟩ m c cs hl (news_rowM hr (by omega)) h1 hm (by simp only [maxLen];omega) (by have:(n+m) * bytes≤1000000000 * 1000:=Nat.mul_le_mul (by omega) hbb;omega) hB _ rfl
 unfold Oper.wpIn
 refine ⟨?_, ?_⟩
 ·simp [Oper.about,ho,resolve,Target.leads,Sem.run_pure]
 ·rw [Oper.semAt_plain F _ _ (by rw [ho];intro c hc';cases hc')]
  simp [execOp,ho,resolve,invoke,builtin,hs,hx,hrun,Result.andThen]
  exact hK _ _ (h g cap w' (appM_of hB hown0 h2 h3 h4 h5))
end
end Go.Q
namespace Go.Q
open Go.RowKit Go.Proofs
theorem row_self (w:World) (cs:Array Value) (ty:TypeId):Row (w.alloc (.cells cs ty)) w.heap.size cs.size (fun i=> cs.getD i undef):=
 ⟨cs,ty,heap_alloc_new w _,Nat.le_refl _,fun i hi=> by simp [Array.getD,hi]⟩
section
variable {P:Program}
theorem run_app_one (W:World) (t tn ty e:TypeId) (i:TypeInfo) (z:Value) (size bytes:Nat) (ht:P.underlying t=some (.slice e)) (htn:P.underlying tn=some (.int .i64)) (hi:P.info? e=some i) (hz:i.zero=some z) (hsize:i.size=size) (hby:i.bytes=bytes) (hzs:z.cells.size=size) (hsz:0 < size) (hbb:bytes≤1000)
  (b n:Nat) (F:Nat→Value) (hn2:n≤1000) (hr:Row W b (n * size) F):
  ∃ g cp w1,(Builtin.append_ #[t,tn] ty #[.slice (some ⟨b,0,none⟩) n n, .int .i64 1]).run P W= .ok (.slice (some ⟨g,0,none⟩) (n+1) cp) w1∧W.heap.size≤g∧n+1≤cp∧Mod No W w1∧∃ F',Row w1 g (cp * size) F' ∧∀ i,i < n * size→F' i=F i:=by
 have h1:=Lib.run_append_grow_zeros (P:=P) W t tn ty e i z .i64 .i64 ht htn hi hz (some ⟨b,0,none⟩) n n ((List.range (n * size)).map F)
  (by rw [hsize];exact run_firstCells_some _ size n _ _ _ _ (by simp) (fun j v hj=> by
   have hjm:j < n * size:=by have:=(List.getElem?_eq_some_iff.1 hj).1;simpa using this
   simp only [List.getElem?_map,List.getElem?_range hjm,Option.map_some,Option.some.injEq] at hj
   rw [Addr.add_lit,Nat.zero_add,Row.cell hr.drew hjm,hj]))
  1 (by omega) (by omega) (by omega) (by omega) (by rw [hby];omega)
  (by have h2:=nextslicecap_le (need:=n+1) (old:=n) (by omega);rw [hby];have:Builtin.nextslicecap (n+1) n * bytes≤(2 * (n+1)) * 1000:=Nat.mul_le_mul h2 hbb;omega)
 have hge:=grownCap_ge W (n+1) n e
 refine ⟨_,_,_,h1,Nat.le_refl _,hge,((Mod.refl No W).drew).alloc _,_,(row_self _ _ _).take (M:=grownCap W (n+1) n e * size) ?_, ?_⟩
 ·simp only [Array.size_append,Builtin.zeroCells,Array.size_map,Array.size_range,hzs,List.size_toArray,List.length_map,List.length_range]
  rw [←Nat.add_mul,←Nat.add_mul]
  exact Nat.mul_le_mul_right _ (by omega)
 ·intro i hi
  simp only [Array.getD_eq_getD_getElem?]
  rw [Array.getElem?_append_left (by simp;omega),Array.getElem?_append_left (by simpa using hi)]
  simp [hi]
theorem run_app_nil1 (W:World) (t tn ty e:TypeId) (i:TypeInfo) (z:Value) (size bytes:Nat) (ht:P.underlying t=some (.slice e)) (htn:P.underlying tn=some (.int .i64)) (hi:P.info? e=some i) (hz:i.zero=some z) (hsize:i.size=size) (hby:i.bytes=bytes) (hzs:z.cells.size=size) (hsz:0 < size) (hbb:bytes≤1000):
  ∃ g cp w1,(Builtin.append_ #[t,tn] ty #[.slice none 0 0, .int .i64 1]).run P W= .ok (.slice (some ⟨g,0,none⟩) 1 cp) w1∧W.heap.size≤g∧1≤cp∧Mod No W w1∧∃ F',Row w1 g (cp * size) F' :=by
 have h1:=Lib.run_append_nil_zeros (P:=P) W t tn ty e i z .i64 .i64 ht htn hi hz 1 (by omega) (by omega) (by omega) (by rw [hby];omega)
 have hge:=grownCap_ge W 1 0 e
 refine ⟨_,_,_,h1,Nat.le_refl _,hge,((Mod.refl No W).drew).alloc _,_,(row_self _ _ _).take (M:=grownCap W 1 0 e * size) ?_⟩
 simp only [Array.size_append,Builtin.zeroCells,Array.size_map,Array.size_range,hzs]
 rw [←Nat.add_mul]
 exact Nat.mul_le_mul_right _ (by omega)
end
end Go.Q
namespace Go.Q
open Go.RowKit Go.Proofs
def sc (j:Nat) (x:Int):Value:=if j=2∨j=3 then .int .u8 x else if j=9 then .int .u64 x else .int .i64 x
def evs (f:Nat→Nat→Int):Nat→Value:=fun i=> sc (i % 12) (f (i / 12) (i % 12))
theorem evs_at (f:Nat→Nat→Int) (k j:Nat) (hj:j < 12):evs f (k * 12+j)=sc j (f k j):=by
 simp only [evs,show (k * 12+j) % 12=j from by omega,show (k * 12+j) / 12=k from by omega]
abbrev slotl (f:Nat→Nat→Int) (k:Nat):List Value:= [.int .i64 (f k 0), .int .i64 (f k 1), .int .u8 (f k 2), .int .u8 (f k 3), .int .i64 (f k 4), .int .i64 (f k 5), .int .i64 (f k 6), .int .i64 (f k 7), .int .i64 (f k 8), .int .u64 (f k 9), .int .i64 (f k 10), .int .i64 (f k 11)]
theorem Row.slot {w:World} {b n:Nat} {f:Nat→Nat→Int} (R:Row w b (n * 12) (evs f)) {k:Nat} (hk:k < n):w.cell? ⟨b,k * 12,none⟩=some (.int .i64 (f k 0))∧w.cell? ⟨b,k * 12+1,none⟩=some (.int .i64 (f k 1))∧w.cell? ⟨b,k * 12+2,none⟩=some (.int .u8 (f k 2))∧w.cell? ⟨b,k * 12+3,none⟩=some (.int .u8 (f k 3))
  ∧w.cell? ⟨b,k * 12+4,none⟩=some (.int .i64 (f k 4))∧w.cell? ⟨b,k * 12+5,none⟩=some (.int .i64 (f k 5))∧w.cell? ⟨b,k * 12+6,none⟩=some (.int .i64 (f k 6))∧w.cell? ⟨b,k * 12+7,none⟩=some (.int .i64 (f k 7))∧w.cell? ⟨b,k * 12+8,none⟩=some (.int .i64 (f k 8))
  ∧w.cell? ⟨b,k * 12+9,none⟩=some (.int .u64 (f k 9))∧w.cell? ⟨b,k * 12+10,none⟩=some (.int .i64 (f k 10))∧w.cell? ⟨b,k * 12+11,none⟩=some (.int .i64 (f k 11)):=by
 have h:∀ j,j < 12→w.cell? ⟨b,k * 12+j,none⟩=some (sc j (f k j)):=fun j hj=> by rw [R.cell (by omega),evs_at f k j hj]
 refine ⟨h 0 (by omega),h 1 (by omega),h 2 (by omega),h 3 (by omega),h 4 (by omega),h 5 (by omega),h 6 (by omega),h 7 (by omega),h 8 (by omega),h 9 (by omega),h 10 (by omega),h 11 (by omega)⟩
attribute [local go_sem] Oper.semAt_some
set_option maxRecDepth 100000 in
theorem each1_walk (l bp r sb L cap u:Nat) (sv:Value) (f:Nat→Nat→Int) (J:Nat→World→Prop) (w:World) (hs:0 < u→sv=slc sb L cap∧u≤L) (hL:L≤4)
  (hJ:∀ k W,J k W→Row W bp 1 (f1 (ptr r))∧Row W r 7 (fl [sv, .int .i64 0, .int .i64 u, .int .i64 0, .int .i64 u, .int .i64 0, .int .i64 4])∧(0 < u→Row W sb (u * 12) (evs f)))
  (hD:∀ k W,J k W→J k W.drew)
  (hY:∀ k W,k < u→J k W→YieldAt FW (3 - 1) Tryz.prog l #[.agg (slotl f k).toArray] W fun e W' => e= .returned (.bool true)∧J (k+1) W')
  (h0:J 0 w):
  CallsIn FW 3 Tryz.prog 224 #[.func (.yield l) #[] #[],ptr bp] w fun e w' => (∃ v,e= .returned v)∧J u w' :=by
 refine callsIn_of_wp Tryz.func224 rfl trivial ?_ rfl
 simp only [Tryz.ntmps224,List.size_toArray,List.length_cons,List.length_nil,Nat.reduceAdd,Nat.reduceSub,Array.replicate_succ,Array.replicate_zero,List.push_toArray,List.append_toArray,List.nil_append,List.cons_append]
 obtain ⟨R0,R1,R2⟩:=hJ 0 w h0
 have c0:w.cell? ⟨bp,0,none⟩=some (ptr r):=R0.cell (i:=0) (by omega)
 have c1:=R1.cL 2 _ (by omega) rfl
 clear R0 R1 R2
 gi_wp2
 clear c0 c1
 gi_loopw [8] (fun s8 wr=> ∃ k:Nat,s8= .int .i64 k∧k≤u∧J k wr) (fun s8 _=> u - (RowKit.intOf s8).toNat)
 case atStart=> exact ⟨0,rfl,by omega,h0⟩
 case round=>
  obtain ⟨wk,rfl⟩:∃ W,W=wr:=⟨wr,rfl⟩
  obtain ⟨k,rfl,hk,hj⟩:=hrel
  obtain ⟨R0,R1,R2⟩:=hJ k wk hj
  by_cases hku:k < u
  ·obtain ⟨hsv,huL⟩:=hs (by omega)
   have R2:=R2 (by omega)
   subst hsv
   have i0:(k:Int) < u:=by omega
   have i1:(k:Int) < L:=by omega
   have i2:(0:Int)≤k:=by omega
   have i3:(0:Int) < L:=by omega
   have i4:Int.tmod (k:Int) (L:Int)=k:=Int.tmod_eq_of_lt i2 i1
   have i5:(L:Int)≤4:=by omega
   have i7:IntKind.i64.wrap (k:Int)=k:=by rw [IntKind.wrap_i64];omega
   have i6:L≠0:=by omega
   have mk:∀ j W,J j W→W.cell? ⟨bp,0,none⟩=some (ptr r)∧W.cell? ⟨r,0,none⟩=some (slc sb L cap)∧W.cell? ⟨r,1,none⟩=some (.int .i64 0)∧W.cell? ⟨sb,k * 12,none⟩=some (.int .i64 (f k 0))∧W.cell? ⟨sb,k * 12+1,none⟩=some (.int .i64 (f k 1))∧W.cell? ⟨sb,k * 12+2,none⟩=some (.int .u8 (f k 2))∧W.cell? ⟨sb,k * 12+3,none⟩=some (.int .u8 (f k 3))
    ∧W.cell? ⟨sb,k * 12+4,none⟩=some (.int .i64 (f k 4))∧W.cell? ⟨sb,k * 12+5,none⟩=some (.int .i64 (f k 5))∧W.cell? ⟨sb,k * 12+6,none⟩=some (.int .i64 (f k 6))∧W.cell? ⟨sb,k * 12+7,none⟩=some (.int .i64 (f k 7))∧W.cell? ⟨sb,k * 12+8,none⟩=some (.int .i64 (f k 8))
    ∧W.cell? ⟨sb,k * 12+9,none⟩=some (.int .u64 (f k 9))∧W.cell? ⟨sb,k * 12+10,none⟩=some (.int .i64 (f k 10))∧W.cell? ⟨sb,k * 12+11,none⟩=some (.int .i64 (f k 11)):=fun j W hj=> by
    obtain ⟨R0,R1,R2⟩:=hJ j W hj
    exact ⟨R0.cell (i:=0) (by omega),R1.cL 0 _ (by omega) rfl,R1.cL 1 _ (by omega) rfl,(R2 (by omega)).slot hku⟩
   clear R0 R1 R2
   gi_wp2_with fail
   refine wpIn_region_chain (fun W=> W.cell? ⟨bp,0,none⟩=some (ptr r)∧W.cell? ⟨r,0,none⟩=some (slc sb L cap)∧W.cell? ⟨r,1,none⟩=some (.int .i64 0)∧W.cell? ⟨sb,k * 12,none⟩=some (.int .i64 (f k 0))∧W.cell? ⟨sb,k * 12+1,none⟩=some (.int .i64 (f k 1))∧W.cell? ⟨sb,k * 12+2,none⟩=some (.int .u8 (f k 2))∧W.cell? ⟨sb,k * 12+3,none⟩=some (.int .u8 (f k 3))
    ∧W.cell? ⟨sb,k * 12+4,none⟩=some (.int .i64 (f k 4))∧W.cell? ⟨sb,k * 12+5,none⟩=some (.int .i64 (f k 5))∧W.cell? ⟨sb,k * 12+6,none⟩=some (.int .i64 (f k 6))∧W.cell? ⟨sb,k * 12+7,none⟩=some (.int .i64 (f k 7))∧W.cell? ⟨sb,k * 12+8,none⟩=some (.int .i64 (f k 8))
    ∧W.cell? ⟨sb,k * 12+9,none⟩=some (.int .u64 (f k 9))∧W.cell? ⟨sb,k * 12+10,none⟩=some (.int .i64 (f k 10))∧W.cell? ⟨sb,k * 12+11,none⟩=some (.int .i64 (f k 11))) [19] [20] [] (rds [0,1,2,3,4,5,6,7,8,9,10,11,12,13,14,15,16,17,18] (.ef 19 (rds [20] .nil))) rfl (by kernel_rfl) (by kernel_rfl) (mk k _ (hD k wk hj)) (fun ops hO=> ?_)
   have HO:=Lib.hid hO
   clear hO
   simp only [rds]
   (repeat (first|(refine wpLI_pure (v:=?_) (by rw [HO.out];rfl) (by first|rfl|(rw [HO.out];rfl)) (fun _=> by first|rfl|(rw [HO.out];rfl)) (fun w'=> ?_) ?_;rotate_left;(focus (go_simp;(try exact rfl);done));try go_simp)|(refine wpLI_read (v:=?_) (by rw [HO.out];rfl) (by rfl) (by first|rfl|(rw [HO.out];rfl)) (fun _=> by first|rfl|(rw [HO.out];rfl)) (fun w' hC'=> ?_) ?_;rotate_left;(focus (obtain ⟨c0,c1,c2,e0,e1,e2,e3,e4,e5,e6,e7,e8,e9,e10,e11⟩:=hC';go_simp;(try exact rfl);done));try go_simp)))
   refine wpLI_eff (by rw [HO.out];rfl) (fun Kx hKx=> ?_)
   have hj1:=hD k wk hj
   obtain ⟨fn,tmps,assign,body,hy,hR⟩:=hY k _ hku hj1
   simp only [slotl] at hy
   go_simp
   refine hR.mono ?_
   rintro e w3 ⟨rfl,hj3⟩
   refine hKx _ _ (.inr (mk _ _ hj3)) ?_
   clear hKx Kx
   (repeat (first|(refine wpLI_pure (v:=?_) (by rw [HO.out];rfl) (by first|rfl|(rw [HO.out];rfl)) (fun _=> by first|rfl|(rw [HO.out];rfl)) (fun w'=> ?_) ?_;rotate_left;(focus (go_simp;(try exact rfl);done));try go_simp)|(refine wpLI_read (v:=?_) (by rw [HO.out];rfl) (by rfl) (by first|rfl|(rw [HO.out];rfl)) (fun _=> by first|rfl|(rw [HO.out];rfl)) (fun w' hC'=> ?_) ?_;rotate_left;(focus (obtain ⟨c0,c1,c2,e0,e1,e2,e3,e4,e5,e6,e7,e8,e9,e10,e11⟩:=hC';go_simp;(try exact rfl);done));try go_simp)))
   refine wpLI_nil ?_
   clear mk
   gi_wp2
   refine ⟨⟨k+1,by go_num,by omega,hj3⟩,by simp only [RowKit.intOf];omega⟩
  ·obtain rfl:k=u:=by omega
   have i0:(k:Int)≤k:=by omega
   gi_wp2
   go_end0
   exact ⟨⟨_,rfl⟩,hj⟩
end Go.Q
namespace Go.Q
open Go.RowKit Go.Proofs
attribute [local go_sem] Oper.semAt_some
theorem Tryz.infoSlot:(Tryz.prog.info? 278).map (fun i=> (i.zero,i.size,i.bytes))=some (some (.agg #[.int .i64 0, .int .i64 0, .int .u8 0, .int .u8 0, .int .i64 0, .int .i64 0, .int .i64 0, .int .i64 0, .int .i64 0, .int .u64 0, .int .i64 0, .int .i64 0]),12,88):=by kernel_rfl
def slots (f:Nat→Nat→Int) (k:Nat):List Value:=(List.range k).flatMap (slotl f)
theorem slots_succ (f:Nat→Nat→Int) (k:Nat):slots f (k+1)=slots f k++slotl f k:=by simp [slots,List.range_succ]
theorem slots_len (f:Nat→Nat→Int) (k:Nat):(slots f k).length=k * 12:=by
 induction k with
 |zero=> rfl
 |succ k ih=> rw [slots_succ,List.length_append,ih];simp;omega
theorem slots_get (f:Nat→Nat→Int) (k i:Nat) (hi:i < k * 12):fl (slots f k) i=evs f i:=by
 induction k with
 |zero=> omega
 |succ k ih=>
  unfold fl at *
  rw [slots_succ,List.getD_eq_getElem?_getD]
  by_cases h:i < k * 12
  ·rw [List.getElem?_append_left (by rw [slots_len];exact h),←List.getD_eq_getElem?_getD,ih h]
  ·rw [List.getElem?_append_right (by rw [slots_len];omega),slots_len]
   obtain ⟨j,hj,rfl⟩:∃ j,j < 12∧i=k * 12+j:=⟨i - k * 12,by omega,by omega⟩
   rw [evs_at f k j hj,show k * 12+j - k * 12=j from by omega]
   exact le12 (P:=fun j=> ((slotl f k)[j]?).getD undef=sc j (f k j)) rfl rfl rfl rfl rfl rfl rfl rfl rfl rfl rfl rfl j hj
theorem own_slice {w:World} {base:Nat} {e:TypeId} {size:Nat} {v:Value} {n:Nat} {xs:List Value} (h:w.ownsRow base e size v n xs):∃ o c,v= .slice o n c:=by
 obtain ⟨_,⟨h1,rfl⟩|⟨g,cap,cur,h1,_⟩⟩:=h
 ·exact ⟨_,_,h1⟩
 ·exact ⟨_,_,h1⟩
theorem own_weak {w:World} {base B:Nat} {e:TypeId} {size:Nat} {v:Value} {n:Nat} {xs:List Value} (h:w.ownsRow base e size v n xs) (hB:B≤base):w.ownsRow B e size v n xs:=by
 obtain ⟨h0,h1|⟨g,cap,cur,h1,h2,r⟩⟩:=h
 ·exact ⟨h0, .inl h1⟩
 ·exact ⟨h0, .inr ⟨g,cap,cur,h1,by omega,r⟩⟩
set_option maxRecDepth 100000 in
theorem appSeq_ok (bp r sb L cap u:Nat) (sv:Value) (f:Nat→Nat→Int) (w:World) (hs:0 < u→sv=slc sb L cap∧u≤L) (hL:L≤4)
  (R0:Row w bp 1 (f1 (ptr r))) (R1:Row w r 7 (fl [sv, .int .i64 0, .int .i64 u, .int .i64 0, .int .i64 u, .int .i64 0, .int .i64 4])) (R2:0 < u→Row w sb (u * 12) (evs f)) (hu:u≤4):
  Calls Tryz.prog 223 #[.slice none 0 0, .func (.func 224) #[] #[ptr bp]] w fun e w' => ∃ v,e= .returned v∧Mod No w w' ∧
   w'.ownsRow w.heap.size 278 12 v u (slots f u):=by
 refine (callsIn_wide (n:=4)).1 ?_
 refine callsIn_of_wp_marks Tryz.func223 rfl trivial ?_ rfl
 simp only [Tryz.ntmps223,List.size_toArray,List.length_cons,List.length_nil,Nat.reduceAdd,Nat.reduceSub,Array.replicate_succ,Array.replicate_zero,List.push_toArray,List.append_toArray,List.nil_append,List.cons_append]
 have lb:=R0.lt
 have lr:=R1.lt
 gi_wp2_with fail
 refine wpIn_world (fun W=> W.heap.size=w.heap.size+1∧Mod No w W∧Row W w.heap.size 1 (f1 (.slice none 0 0))) ⟨by simp,modX,row_new1 w _ 195⟩ ?_
 rintro W ⟨hz,hm,RB⟩
 have HZ:=Lib.hid hz;clear hz
 have HS:=Lib.hid hs;clear hs
 refine wpIn_range (gf:=224) (cap:= #[ptr bp]) rfl (enters_of Tryz.func224 (by kernel_rfl) rfl)
  (fun W' => ∃ v,Row W' w.heap.size 1 (f1 v)∧W'.ownsRow (w.heap.size+3) 278 12 v u (slots f u)∧Mod No w W' ∧W'.heap[W.heap.size]? =some (.deferred (some []))) ?h ?hk
 case h=>
  intro fn
  generalize hrec:loopRec fn _ _ _ _ W.heap.size=rec
  have hz1:w.heap.size+1≤W.heap.size:=by have:=HZ.out;omega
  have hz2:W.heap.size≤w.heap.size+1:=by have:=HZ.out;omega
  refine (each1_walk (W.heap.size+1) bp r sb L cap u sv f (fun k V=> ∃ v,Row V w.heap.size 1 (f1 v)∧V.ownsRow (w.heap.size+3) 278 12 v k (slots f k)∧Mod No w V∧V.heap[W.heap.size]? =some (.deferred (some []))∧V.heap[W.heap.size+1]? =some (rec .ready)) _ HS.out hL ?_ ?_ ?_ ⟨.slice none 0 0,(RB.alloc _).alloc _,World.ownsRow_nil _ _ _ _,(hm.alloc _).alloc _, ?_, ?_⟩).mono ?_
  ·rintro k V ⟨v,h1,h2,h3,h4,h5⟩
   exact ⟨R0.mod h3 (fun h=> h),R1.mod h3 (fun h=> h),fun hu=> (R2 hu).mod h3 (fun h=> h)⟩
  ·rintro k V ⟨v,h1,h2,h3,h4,h5⟩
   exact ⟨v,h1.drew,h2.drew,h3.drew,h4,h5⟩
  ·rintro k V hk ⟨v,h1,h2,h3,h4,h5⟩
   have lV:=h1.lt
   have l5:=Lib.hid (lt_of_block h5)
   have lz:=h3.size
   rw [←hrec] at h5
   have HR:=Lib.hid hrec;clear hrec
   obtain ⟨vo,vc,rfl⟩:=own_slice h2
   refine (yield_round h5 _ rfl (fun V' => ∃ v,Row V' w.heap.size 1 (f1 v)∧V'.ownsRow (w.heap.size+3) 278 12 v (k+1) (slots f (k+1))∧Mod No w V' ∧V'.heap[W.heap.size]? =some (.deferred (some []))∧V'.heap[W.heap.size+1]? =some (rec .ready)) ?_).mono (fun e V' h=> h)
   have H5:=Lib.hid h5;clear h5
   gi_wp2
   have h5:=H5.out
   refine ⟨by rw [Below.heap_alloc _ _ _ l5.out];exact h5, ?_⟩
   have hge:w.heap.size+3≤V.heap.size:=by have:=l5.out;omega
   have ngo:∀ b,(Value.slice vo k vc).ownBlock=some b→¬One (W.heap.size+1) b:=fun b hb e=> by have:=(h2.lt b hb).1;have:b=W.heap.size+1:=e;omega
   refine wpIn_world (fun U=> Row U w.heap.size 1 (f1 (.slice vo k vc))∧U.ownsRow (w.heap.size+3) 278 12 (.slice vo k vc) k (slots f k)∧Mod No w U∧U.heap[W.heap.size]? =some (.deferred (some []))∧U.heap[W.heap.size+1]? =some (loopRec _ _ _ _ _ _ .busy)∧Row U V.heap.size 12 (fl (slotl f k)))
    ⟨row_putObj (h1.alloc _) (by omega),ownsRow_mod (h2.alloc _) ((Mod.refl (One (W.heap.size+1)) _).setObj (r:=W.heap.size+1) (.inr rfl) _) ngo,mod_putObj (h3.alloc _) (.inl (by omega)),heap_putObj (by rw [Below.heap_alloc _ _ _ (lt_of_block h4)];exact h4) (by omega),World.putObj_heap_same (by rw [World.size_alloc];have:=l5.out;omega),row_putObj (row_newL V [_,_,_,_,_,_,_,_,_,_,_,_] _) (by omega)⟩ ?_
   rintro U ⟨g1,g2,g3,g4,g5,g6⟩
   have c0:U.cell? ⟨w.heap.size,0,none⟩=some (.slice vo k vc):=g1.cell (i:=0) (by omega)
   have z0:=g1.free 0
   have lU:=g6.lt
   have e0:=g6.cL 0 _ (by omega) rfl
   have e1:=g6.cL 1 _ (by omega) rfl
   have e2:=g6.cL 2 _ (by omega) rfl
   have e3:=g6.cL 3 _ (by omega) rfl
   have e4:=g6.cL 4 _ (by omega) rfl
   have e5:=g6.cL 5 _ (by omega) rfl
   have e6:=g6.cL 6 _ (by omega) rfl
   have e7:=g6.cL 7 _ (by omega) rfl
   have e8:=g6.cL 8 _ (by omega) rfl
   have e9:=g6.cL 9 _ (by omega) rfl
   have e10:=g6.cL 10 _ (by omega) rfl
   have e11:=g6.cL 11 _ (by omega) rfl
   clear h5
   have nb:∀ b,b < w.heap.size+3→¬(Value.slice vo k vc).ownBlock=some b:=fun b hb e=> by have:=(h2.lt b e).1;omega
   gi_wp2_with (gi_at_builtin;go_must (refine wpListIn_app_m 278 _ 12 88 Tryz.infoSlot rfl _ _ 195 rfl Tryz.underlying195 rfl (by decide) (by decide) 1 (slotl f k) rfl (by simp [Value.oneCell']) (w.heap.size+3) (.slice vo k vc) k (slots f k) _ _ rfl rfl (by decide) ?_ ?_ ?_ ?_ ?_);go_must (· simp;omega);go_must (· omega);go_must (· (repeat first|(with_reducible exact g2)|(with_reducible refine World.ownsRow.drew ?_)|(with_reducible refine World.ownsRow.alloc ?_ _)));go_must (· exact row_newL U [_,_,_,_,_,_,_,_,_,_,_,_] _);go_must (intro gt ct wA hA);go_must (have gA:=Row.mod (Row.alloc g1 _) hA.mod (nb _ (by omega));have lA:=gA.lt;have cA:wA.cell? ⟨w.heap.size,0,none⟩=some (.slice vo k vc):=gA.cell (i:=0) (by omega);have zA:=gA.free 0))
   have mA:Mod (fun b=> (Value.slice vo k vc).ownBlock=some b) U wA:=Mod.trans ((Mod.refl _ U).alloc _) hA.mod (fun _ _ h=> h)
   have g3A:Mod No w wA:=Mod.trans g3 mA (fun b hb h=> nb b (by omega) h)
   have hgt:W.heap.size+1 < gt:=by have:=hA.base;omega
   refine ⟨heap_setCell (mA.heap g5 (nb _ (by omega))) (by show w.heap.size≠W.heap.size+1;omega) _, .slice (some ⟨gt,0,none⟩) (k+1) ct,row_putObj ((gA.set (i:=0) (by omega) _).congr (fun i hi=> by obtain rfl:i=0:=(by omega);rfl)) (by omega), ?_,mod_putObj (g3A.setCell (.inl (Nat.le_refl _)) _) (.inl (by omega)),heap_putObj (heap_setCell (mA.heap g4 (nb _ (by omega))) (by show w.heap.size≠W.heap.size;omega) _) (by omega), ?_⟩
   ·have hO:=hA.own
    rw [←slots_succ] at hO
    refine ownsRow_mod hO (S:=fun b=> b < w.heap.size+3) (Mod.setObj (Mod.setCell (Mod.refl _ wA) (.inr (by show w.heap.size < _;omega)) _) (.inr (by show W.heap.size+1 < _;omega)) _) (fun b hb h=> ?_)
    obtain rfl:gt=b:=Option.some.inj hb
    have:gt < w.heap.size+3:=h
    omega
   ·rw [←HR.out];exact World.putObj_heap_same (by have:=lt_of_block (mA.heap g5 (nb _ (by omega)));simpa using this)
  ·rw [Below.heap_alloc _ _ _ (by simp)];exact World.alloc_heap_new _ _
  ·rw [←hrec];exact (by have:=World.alloc_heap_new (W.alloc (.deferred (some [])));rw [World.size_alloc] at this;exact this _)
  ·rintro e V ⟨⟨v,rfl⟩,v2,h1,h2,h3,h4,h5⟩
   have l5:=lt_of_block h5
   refine ⟨⟨v,rfl⟩,h5,v2,row_putObj h1 (by omega),ownsRow_mod h2 ((Mod.refl (One (W.heap.size+1)) V).setObj (r:=W.heap.size+1) (.inr rfl) _) (fun b hb e=> ?_),mod_putObj h3 (.inl (by omega)),heap_putObj h4 (by omega)⟩
   have:=(h2.lt b hb).1
   have:b=W.heap.size+1:=e
   omega
 case hk=>
  rintro W' ⟨v,S0,so,sm,sd⟩
  obtain ⟨vo,vc,rfl⟩:=own_slice so
  have c0:W'.cell? ⟨w.heap.size,0,none⟩=some (.slice vo u vc):=S0.cell (i:=0) (by omega)
  gi_wp2
  refine ⟨by simp, .inl ⟨_,_,rfl,run_takeDeferred sd, ?_⟩⟩
  have hw:=HZ.out
  refine ⟨_,results_tmp rfl _ _ _,_,rfl,mod_putObj sm (.inl (by omega)),own_weak (ownsRow_mod so ((Mod.refl (One W.heap.size) W').setObj (r:=W.heap.size) (.inr rfl) _) (fun b hb e=> ?_)) (by omega)⟩
  have:=(so.lt b hb).1
  have:b=W.heap.size:=e
  omega
end Go.Q
namespace Go.Q
open Go.RowKit Go.Proofs
theorem Tryz.infoU64:(Tryz.prog.info? 37).map (fun i=> (i.zero,i.size,i.bytes))=some (some (.int .u64 0),1,8):=by kernel_rfl
def ul (l:List Nat):List Value:=l.map fun (x:Nat)=> .int .u64 (x:Int)
theorem ul_append (l m:List Nat):ul (l++m)=ul l++ul m:=by simp [ul]
theorem ul_len (l:List Nat):(ul l).length=l.length:=by simp [ul]
theorem ul_one (l:List Nat):∀ u∈ul l,u.oneCell' =true:=by
 intro u hu
 obtain ⟨x,_,rfl⟩:=List.mem_map.1 hu
 rfl
theorem own_row1 {w:World} {base:Nat} {e:TypeId} {g cap n:Nat} {xs:List Value} (h:w.ownsRow base e 1 (slc g n cap) n xs):Row w g (n * 1) (fl xs):=own_row h
theorem own_pos {w:World} {base:Nat} {e:TypeId} {size:Nat} {v:Value} {n:Nat} {xs:List Value} (h:w.ownsRow base e size v n xs) (hn:0 < n):∃ g c,v=slc g n c∧base≤g∧g < w.heap.size:=by
 obtain ⟨_,⟨h1,rfl⟩|⟨g,cap,cur,h1,h2,h3,_⟩⟩:=h
 ·omega
 ·exact ⟨g,cap,h1,h2,lt_of_block h3⟩
set_option maxRecDepth 100000 in
theorem numbers_ok (b n c:Nat) (f:Nat→Int) (h0:∀ i,i < n→0≤f i∧f i≤9223372036854775807) (hn:n≤1000) (w:World) (R:Row w b n (ints f)):
  Calls Tryz.prog 273 #[slc b n c] w fun e w' => ∃ v,e= .returned v∧w'.ownsRow w.heap.size 37 1 v n (ul (inum f 0 n))∧Mod No w w' :=by
 have HF:=Lib.hid h0
 clear h0
 go_enter Tryz.func273,Tryz.ntmps273
 go_wp2
 go_loopw [8,3] (fun s8 s3 wr=> ∃ k:Nat,s8= .int .i64 k∧k≤n∧wr.ownsRow w.heap.size 37 1 s3 k (ul (inum f 0 k))∧Mod No w wr) (fun s8 _ _=> n - (RowKit.intOf s8).toNat)
 case atStart=> exact ⟨0,rfl,by omega,World.ownsRow_nil _ _ _ _,Mod.refl _ _⟩
 case round=>
  obtain ⟨wk,rfl⟩:∃ W,W=wr:=⟨wr,rfl⟩
  obtain ⟨k,rfl,hk,hO,hm⟩:=hrel
  obtain ⟨vo,vc,rfl⟩:=own_slice hO
  by_cases hkn:k < n
  ·have i1:(k:Int) < n:=by omega
   have R1:=R.mod hm (fun h=> h)
   obtain ⟨m,hm0⟩:∃ m:Nat,f k=m:=⟨(f k).toNat,(Int.toNat_of_nonneg (HF.out k hkn).1).symm⟩
   have hm1:(m:Int)≤9223372036854775807:=by have:=(HF.out k hkn).2;omega
   have c0:wk.cell? ⟨b,k,none⟩=some (.int .i64 m):=by rw [R1.cell hkn];exact congrArg (fun x=> some (Value.int .i64 x)) hm0
   have HM:=Lib.hid hm0
   clear hm0
   have lz:=hm.size
   go_wp2_with (at_builtin;go_must (refine wpList_app_c 37 _ 1 8 Tryz.infoU64 rfl _ _ 172 rfl Tryz.underlying172 rfl (by decide) (by decide) [.int .u64 m] rfl (by simp [Value.oneCell']) w.heap.size (.slice vo k vc) k (ul (inum f 0 k)) _ _ rfl rfl ?_ ?_ ?_ ?_ ?_);go_must (· simp;omega);go_must (· omega);go_must (· (repeat first|(with_reducible exact hO)|(with_reducible refine World.ownsRow.drew ?_)|(with_reducible refine World.ownsRow.alloc ?_ _)));go_must (· exact row_one _ _ _ _ rfl);go_must (intro gt ct wA hA))
   refine ⟨⟨k+1,by go_num,by omega, ?_, ?_⟩,by simp only [RowKit.intOf];omega⟩
   ·have hO2:=hA.own
    rw [inum_snoc,ul_append,Nat.zero_add,HM.out]
    exact hO2
   ·refine Mod.trans hm (Mod.trans ((Mod.refl _ wk).alloc _) hA.mod (fun _ _ h=> h)) (fun b hb h=> ?_)
    have:=(hO.lt b h).1
    omega
  ·obtain rfl:k=n:=by omega
   have i1:(k:Int)≤k:=by omega
   go_wp2
   go_ret
   exact ⟨_,rfl,hO,hm⟩
end Go.Q
