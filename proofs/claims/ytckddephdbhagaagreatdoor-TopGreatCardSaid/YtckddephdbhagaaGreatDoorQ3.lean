/- A part of the proof that TopGreat answers true: what some of the functions on its road compute. -/
import Derived.Still
import Derived.Lib.Walk
import Derived.Deep.DeepCutAuto
import Derived.Test.YtckddephdbhagaaGreatDoorQ0
import Derived.Test.YtckddephdbhagaaGreatDoorQ2
set_option linter.unusedVariables false
set_option linter.unusedSimpArgs false
/- A region that draws its order:operations that only read (they give the same at each world of a class C),and operations of effect that come one behind the other in every order. One order is walked. -/
namespace Go.Q
open Go.RowKit
section
variable {P:Program} {ops:Array Oper} {md:Region.Mode} {C:World→Prop} {es pu fx:List Nat} {Q:Exit→Act→World→Prop}
def NoQ:Exit→Act→World→Prop:=fun _ _ _=> False
def YieldsC (P:Program) (ops:Array Oper) (C:World→Prop) (o:Oper) (v:Value) (a:Act):Prop:=∀ w,C w→YieldsAt P ops w o v a
def wpAnyL (P:Program) (md:Region.Mode) (ops:Array Oper) (C:World→Prop) (es pu fx:List Nat) (Q:Exit→Act→World→Prop):Nat→Array Bool→Act→World→Prop
 |0,listed,a,w=> Region.ready md ops listed= []∧Q .normal a w
 |fuel+1,listed,a,w=>
  (Region.ready md ops listed= []→Q .normal a w)∧
  ∀ i∈Region.ready md ops listed,∃ o,ops[i]? =some o∧
   if i∈es then (if Region.wanted o (yielded ops a.tmps) then o.wp P a w (fun a' w' => (i∈fx∨C w')∧wpAnyL P md ops C es pu fx Q fuel (listed.setIfInBounds i true) a' w') NoQ else wpAnyL P md ops C es pu fx Q fuel (listed.setIfInBounds i true) (a.put o.dst undef) w)
   else ∃ v,YieldsC P ops (fun w=> i∈pu∨C w) o v a∧wpAnyL P md ops C es pu fx Q fuel (listed.setIfInBounds i true) (a.put o.dst v) w
theorem wp_mono_all {o:Oper} {a:Act} {w:World} {K K' :Act→World→Prop} (h:∀ a w,K a w→K' a w) (hh:o.wp P a w K NoQ):o.wp P a w K' Q:=by
 unfold Oper.wp at *
 generalize (execOp a.eval o).run P w=r at *
 cases r with
 |ok n w' =>
  cases n <;> simp only [Oper.upon] at hh ⊢ <;>
   first
    |exact h _ _ hh
    |exact Calls.mono hh (fun e w'' he=> by cases e <;> first|exact h _ _ he|exact he.elim|(simp [LetsOut,NoQ] at he))
    |exact Rows.mono hh (fun _ _ he=> h _ _ he)
 |halt x w' => cases x <;> simp only [Oper.upon,NoQ] at hh ⊢
def Safe (ops:Array Oper) (C:World→Prop) (es pu:List Nat) (listed:Array Bool) (w:World):Prop:=C w∨∀ j,j < ops.size→j∉es→j∉pu→listed.getD j true=true
theorem getD_set_true' {listed:Array Bool} {i j:Nat} (h:listed.getD j true=true):(listed.setIfInBounds i true).getD j true=true:=by
 by_cases hij:i=j
 ·subst hij
  simp only [Array.getD_eq_getD_getElem?,Array.getElem?_setIfInBounds]
  split
  ·split <;> rfl
  ·contradiction
 ·rw [getD_set_ne true hij];exact h
theorem Safe.set {listed:Array Bool} {w:World} (h:Safe ops C es pu listed w) (i:Nat):Safe ops C es pu (listed.setIfInBounds i true) w:=h.imp id (fun h j h1 h2 h3=> getD_set_true' (h j h1 h2 h3))
theorem wpAny_of_L (hfx:∀ i∈fx,∀ oi,ops[i]? =some oi→∀ j,j < ops.size→j∉es→j∉pu→∃ e∈oi.after,Region.binds md e=true∧e.on=j):∀ (fuel:Nat) (listed:Array Bool) (a:Act) (w:World),Safe ops C es pu listed w→wpAnyL P md ops C es pu fx Q fuel listed a w→wpAny P md ops Q fuel listed a w
 |0,_,_,_,_,h=> ⟨h.1,h.2⟩
 |fuel+1,listed,a,w,hS,h=> ⟨h.1,fun i hi=> by
   obtain ⟨o,ho,hr⟩:=h.2 i hi
   split at hr
   ·unfold wpOp
    simp only [ho]
    split
    ·rename_i hw
     simp only [hw,if_true] at hr
     refine .inl (wp_mono_all (fun a' w' hh=> wpAny_of_L hfx fuel _ a' w' ?_ hh.2) hr)
     rcases hh.1 with hf|hc
     ·refine .inr (fun j hj he hp=> getD_set_true' ?_)
      obtain ⟨e,hem,hb,rfl⟩:=hfx i hf o ho j hj he hp
      obtain ⟨_,o2,ho2,hall⟩:=mem_ready.1 hi
      obtain rfl:o=o2:=Option.some.inj (ho.symm.trans ho2)
      have:=hall e hem hb
      simp only [Array.getD_eq_getD_getElem?] at this ⊢
      cases hg:listed[e.on]? with
      |none=> rfl
      |some b=> rw [hg] at this;simpa using this
     ·exact .inl hc
    ·rename_i hw
     simp only [hw] at hr
     exact wpAny_of_L hfx fuel _ _ _ (hS.set i) hr
   ·rename_i hie
    obtain ⟨v,hy,hh⟩:=hr
    have hc:i∈pu∨C w:=by
     by_cases hp:i∈pu
     ·exact .inl hp
     ·rcases hS with hc|hall
      ·exact .inr hc
      ·obtain ⟨h0,o2,ho2,_⟩:=mem_ready.1 hi
       have:=hall i (Array.getElem?_eq_some_iff.1 ho2).1 hie hp
       rw [h0] at this;cases this
    exact wpOp_of_stOp (K:=fun a' => wpAnyL P md ops C es pu fx Q fuel (listed.setIfInBounds i true) a' w) (fun a' hh=> wpAny_of_L hfx fuel _ a' w (hS.set i) hh) ((hy w hc).stOp ho hh)⟩
theorem wp_put {oi oj:Oper} {v:Value} (hap:oi.apart ops oj=true) (hsi:∀ cs b,oi.op≠ .select cs b) (hsj:∀ cs b,oj.op≠ .select cs b) {K:Act→World→Prop} {a:Act} {w:World}
  (hy:YieldsC P ops C oi v a) (h:oj.wp P (a.put oi.dst v) w K NoQ):oj.wp P a w (fun a' w' => YieldsC P ops C oi v a' ∧K (a'.put oi.dst v) w') NoQ:=by
 obtain ⟨h1,h2,h3⟩:=Oper.apart_spec hap
 have keep:∀ (a:Act),YieldsC P ops C oi v a→∀ u,YieldsC P ops C oi v (a.put oj.dst u):=fun a hy u w hw=>
  (hy w hw).of_same (execOp_put oi hsi a oj.dst u h3) (wanted_put oi a oj.dst u h3)
 have keepd:∀ (a:Act) (d:Deferred),YieldsC P ops C oi v a→YieldsC P ops C oi v { a with defers:=d::a.defers }:=fun a d hy w hw=> hy w hw
 unfold Oper.wp at *
 rw [execOp_put oj hsj a oi.dst v h1] at h
 generalize (execOp a.eval oj).run P w=r at *
 cases r with
 |ok n w' =>
  cases n <;> simp only [Oper.upon] at h ⊢
  case value u=> exact ⟨keep a hy u,by rw [←Act.put_comm a v u h2];exact h⟩
  case skip=> exact ⟨keep a hy _,by rw [←Act.put_comm a v undef h2];exact h⟩
  case defer d=>
   refine ⟨keep _ (keepd a d hy) _, ?_⟩
   rw [Act.put_defers,Act.put_comm _ v undef h2] at h
   exact h
  case enter f args=>
   refine h.mono ?_
   intro e w'' he
   cases e with
   |returned u=> exact ⟨keep a hy u,by rw [←Act.put_comm a v u h2];exact he⟩
   |panicked ch=> exact he.elim
   |outgrown=> simp [LetsOut,NoQ] at he
  case row row args=> exact h.mono (fun u w'' he=> ⟨keep a hy u,by rw [←Act.put_comm a v u h2];exact he⟩)
  all_goals exact h
 |halt x w' => cases x <;> simp only [Oper.upon,NoQ] at h ⊢
theorem wpAnyL_first {i:Nat} {oi:Oper} {v:Value} (hi:ops[i]? =some oi) (hsel:∀ (j:Nat) (o:Oper) cs b,ops[j]? =some o→o.op≠ .select cs b) (hie:i∉es):
  ∀ (fuel:Nat) (listed:Array Bool) (a:Act) (w:World),
   (∀ j oj,ops[j]? =some oj→j≠i→listed.getD j true=false→(∀ e∈oj.after,Region.binds md e=true→e.on≠i)→oi.apart ops oj=true)→
   i∈Region.ready md ops listed→YieldsC P ops (fun w=> i∈pu∨C w) oi v a→
   wpAnyL P md ops C es pu fx Q fuel (listed.setIfInBounds i true) (a.put oi.dst v) w→wpAnyL P md ops C es pu fx Q (fuel+1) listed a w:=by
 intro fuel
 induction fuel with
 |zero=>
  intro listed a w _ hr hy H
  refine ⟨fun h=> (by rw [h] at hr;cases hr),fun j hj=> ?_⟩
  by_cases hji:j=i
  ·subst hji;exact ⟨oi,hi,by rw [if_neg hie];exact ⟨v,hy,H⟩⟩
  ·have:=ready_mono hj hji
   rw [H.1] at this
   cases this
 |succ fuel ih=>
  intro listed a w hfree hr hy H
  refine ⟨fun h=> (by rw [h] at hr;cases hr),fun j hj=> ?_⟩
  by_cases hji:j=i
  ·subst hji;exact ⟨oi,hi,by rw [if_neg hie];exact ⟨v,hy,H⟩⟩
  ·obtain ⟨oj',hoj',h1⟩:=H.2 j (ready_mono hj hji)
   obtain ⟨hjun,oj,hoj,hall⟩:=mem_ready.1 hj
   obtain rfl:oj' =oj:=Option.some.inj (hoj'.symm.trans hoj)
   have hnot:∀ e∈oj'.after,Region.binds md e=true→e.on≠i:=fun e he hb heq=> by
    have h1:=hall e he hb
    have h0:=(mem_ready.1 hr).1
    rw [heq] at h1
    rcases Nat.lt_or_ge i listed.size with h' |h'
    ·simp [h'] at h0 h1;rw [h0] at h1;cases h1
    ·simp [Array.getElem?_eq_none h'] at h1
   have hap:=hfree j oj' hoj hji hjun hnot
   have hfree' :∀ k ok,ops[k]? =some ok→k≠i→(listed.setIfInBounds j true).getD k true=false→
     (∀ e∈ok.after,Region.binds md e=true→e.on≠i)→oi.apart ops ok=true:=fun k ok hk hki hun hno=> by
    refine hfree k ok hk hki ?_ hno
    by_cases hjk:j=k
    ·subst hjk;exact hjun
    ·rw [getD_set_ne true hjk] at hun;exact hun
   have hri:=ready_mono hr (Ne.symm hji)
   have hcomm:(listed.setIfInBounds j true).setIfInBounds i true=(listed.setIfInBounds i true).setIfInBounds j true:=Array.setIfInBounds_comm _ _ hji
   obtain ⟨a1,a2,a3⟩:=Oper.apart_spec hap
   have keep:∀ u,YieldsC P ops (fun w=> i∈pu∨C w) oi v (a.put oj'.dst u):=fun u w hw=>
    (hy w hw).of_same (execOp_put oi (fun cs b=> hsel i oi cs b hi) a oj'.dst u a3) (wanted_put oi a oj'.dst u a3)
   refine ⟨oj',hoj, ?_⟩
   by_cases hje:j∈es
   ·rw [if_pos hje] at h1 ⊢
    rw [wanted_put oj' a oi.dst v a1] at h1
    by_cases hw:Region.wanted oj' (yielded ops a.tmps)=true
    ·rw [if_pos hw] at h1 ⊢
     refine wp_mono_all (fun a' w' hh=> ?_) (wp_put hap (fun cs b=> hsel i oi cs b hi) (fun cs b=> hsel j oj' cs b hoj) hy h1)
     exact ⟨hh.2.1,ih _ a' w' hfree' hri hh.1 (by rw [hcomm];exact hh.2.2)⟩
    ·rw [if_neg hw] at h1 ⊢
     exact ih _ _ w hfree' hri (keep _) (by rw [hcomm,←Act.put_comm a v undef a2];exact h1)
   ·rw [if_neg hje] at h1 ⊢
    obtain ⟨u,hyu,hh⟩:=h1
    refine ⟨u,fun w' hw' => (hyu w' hw').of_same (execOp_put oj' (fun cs b=> hsel j oj' cs b hoj) a oi.dst v a1).symm (wanted_put oj' a oi.dst v a1).symm, ?_⟩
    exact ih _ _ w hfree' hri (keep u) (by rw [hcomm,←Act.put_comm a v u a2];exact hh)
inductive Ord
 |nil
 |rd (k:Nat) (t:Ord)
 |ef (k:Nat) (t:Ord)
 |ef2 (k:Nat) (t:Ord) (k' :Nat) (t' :Ord)
 |ef3 (k:Nat) (t:Ord) (k' :Nat) (t' :Ord) (k'' :Nat) (t'' :Ord)
def Ord.len:Ord→Nat
 | .nil=> 0
 | .rd _ t=> t.len+1
 | .ef _ t=> t.len+1
 | .ef2 _ t _ _=> t.len+1
 | .ef3 _ t _ _ _ _=> t.len+1
def rds:List Nat→Ord→Ord
 | [],t=> t
 |k::l,t=> .rd k (rds l t)
def effL (P:Program) (ops:Array Oper) (C:World→Prop) (fx:List Nat) (k:Nat) (X:Act→World→Prop) (a:Act) (w:World):Prop:=
 ∃ o,ops[k]? =some o∧(if Region.wanted o (yielded ops a.tmps) then o.wp P a w (fun a' w' => (k∈fx∨C w')∧X a' w') NoQ else X (a.put o.dst undef) w)
def wpL (P:Program) (ops:Array Oper) (C:World→Prop) (pu fx:List Nat) (Q:Exit→Act→World→Prop):Ord→Act→World→Prop
 | .nil,a,w=> Q .normal a w
 | .rd k t,a,w=> ∃ o,ops[k]? =some o∧∃ v,YieldsC P ops (fun w=> k∈pu∨C w) o v a∧wpL P ops C pu fx Q t (a.put o.dst v) w
 | .ef k t,a,w=> effL P ops C fx k (wpL P ops C pu fx Q t) a w
 | .ef2 k t k' t',a,w=> effL P ops C fx k (wpL P ops C pu fx Q t) a w∧effL P ops C fx k' (wpL P ops C pu fx Q t') a w
 | .ef3 k t k' t' k'' t'',a,w=> effL P ops C fx k (wpL P ops C pu fx Q t) a w∧effL P ops C fx k' (wpL P ops C pu fx Q t') a w∧effL P ops C fx k'' (wpL P ops C pu fx Q t'') a w
def chainB (md:Region.Mode) (ops:Array Oper) (es:List Nat):Ord→Array Bool→Bool
 | .nil,listed=> (Region.ready md ops listed).isEmpty
 | .rd k t,listed=> (Region.ready md ops listed).contains k && !es.contains k && Region.free md ops listed k && chainB md ops es t (listed.setIfInBounds k true)
 | .ef k t,listed=> (Region.ready md ops listed)== [k] && es.contains k && chainB md ops es t (listed.setIfInBounds k true)
 | .ef2 k t k' t',listed=> (Region.ready md ops listed)== [k,k'] && es.contains k && es.contains k' && chainB md ops es t (listed.setIfInBounds k true) && chainB md ops es t' (listed.setIfInBounds k' true) && t.len==t'.len
 | .ef3 k t k' t' k'' t'',listed=> (Region.ready md ops listed)== [k,k',k''] && es.contains k && es.contains k' && es.contains k'' && chainB md ops es t (listed.setIfInBounds k true) && chainB md ops es t' (listed.setIfInBounds k' true) && chainB md ops es t'' (listed.setIfInBounds k'' true) && t.len==t'.len && t.len==t''.len
theorem eff_of {k n:Nat} {listed:Array Bool} {a:Act} {w:World} {X:Act→World→Prop} (hk:k∈es) (hX:∀ a w,X a w→wpAnyL P md ops C es pu fx Q n (listed.setIfInBounds k true) a w) (h:effL P ops C fx k X a w):
  ∃ o,ops[k]? =some o∧if k∈es then (if Region.wanted o (yielded ops a.tmps) then o.wp P a w (fun a' w' => (k∈fx∨C w')∧wpAnyL P md ops C es pu fx Q n (listed.setIfInBounds k true) a' w') NoQ else wpAnyL P md ops C es pu fx Q n (listed.setIfInBounds k true) (a.put o.dst undef) w)
   else ∃ v,YieldsC P ops (fun w=> k∈pu∨C w) o v a∧wpAnyL P md ops C es pu fx Q n (listed.setIfInBounds k true) (a.put o.dst v) w:=by
 obtain ⟨o,ho,h⟩:=h
 refine ⟨o,ho, ?_⟩
 rw [if_pos hk]
 split
 ·rename_i hw
  rw [if_pos hw] at h
  exact wp_mono_all (fun a' w' hh=> ⟨hh.1,hX _ _ hh.2⟩) h
 ·rename_i hw
  rw [if_neg hw] at h
  exact hX _ _ h
theorem wpAnyL_of (hs:Region.noSelect ops=true):∀ (ord:Ord) (listed:Array Bool) (a:Act) (w:World),chainB md ops es ord listed=true→wpL P ops C pu fx Q ord a w→wpAnyL P md ops C es pu fx Q ord.len listed a w
 | .nil,_,_,_,hB,h=> ⟨by simpa [chainB] using hB,h⟩
 | .rd k t,listed,a,w,hB,h=> by
  obtain ⟨o,ho,v,hy,hh⟩:=h
  simp only [chainB,Bool.and_eq_true,Bool.not_eq_true'] at hB
  obtain ⟨⟨⟨hr,hk⟩,hf⟩,hB'⟩:=hB
  exact wpAnyL_first ho (Region.noSelect_spec hs) (by simpa using hk) t.len listed a w (Region.free_spec ho hf) (by simpa using hr) hy (wpAnyL_of hs t _ _ w hB' hh)
 | .ef k t,listed,a,w,hB,h=> by
  simp only [chainB,Bool.and_eq_true] at hB
  obtain ⟨⟨hf,hk⟩,hB'⟩:=hB
  have hf' :Region.ready md ops listed= [k]:=by simpa using hf
  refine ⟨fun h=> (by rw [hf'] at h;cases h),fun j hj=> ?_⟩
  rw [hf'] at hj
  obtain rfl:j=k:=by simpa using hj
  exact eff_of (by simpa using hk) (fun a' w' hh=> wpAnyL_of hs t _ a' w' hB' hh) h
 | .ef2 k t k' t',listed,a,w,hB,h=> by
  simp only [chainB,Bool.and_eq_true] at hB
  obtain ⟨⟨⟨⟨⟨hf,hk⟩,hk'⟩,hB1⟩,hB2⟩,hl⟩:=hB
  have hf' :Region.ready md ops listed= [k,k']:=by simpa using hf
  have hl' :t.len=t'.len:=by simpa using hl
  refine ⟨fun h=> (by rw [hf'] at h;cases h),fun j hj=> ?_⟩
  rw [hf'] at hj
  rcases (by simpa using hj:j=k∨j=k') with rfl|rfl
  ·exact eff_of (by simpa using hk) (fun a' w' hh=> wpAnyL_of hs t _ a' w' hB1 hh) h.1
  ·exact eff_of (by simpa using hk') (fun a' w' hh=> by have:=wpAnyL_of hs t' _ a' w' hB2 hh;rw [←hl'] at this;exact this) h.2
 | .ef3 k t k' t' k'' t'',listed,a,w,hB,h=> by
  simp only [chainB,Bool.and_eq_true] at hB
  obtain ⟨⟨⟨⟨⟨⟨⟨⟨hf,hk⟩,hk'⟩,hk''⟩,hB1⟩,hB2⟩,hB3⟩,hl⟩,hl2⟩:=hB
  have hf' :Region.ready md ops listed= [k,k',k'']:=by simpa using hf
  have hl' :t.len=t'.len:=by simpa using hl
  have hl2' :t.len=t''.len:=by simpa using hl2
  refine ⟨fun h=> (by rw [hf'] at h;cases h),fun j hj=> ?_⟩
  rw [hf'] at hj
  rcases (by simpa using hj:j=k∨j=k' ∨j=k'') with rfl|rfl|rfl
  ·exact eff_of (by simpa using hk) (fun a' w' hh=> wpAnyL_of hs t _ a' w' hB1 hh) h.1
  ·exact eff_of (by simpa using hk') (fun a' w' hh=> by have:=wpAnyL_of hs t' _ a' w' hB2 hh;rw [←hl'] at this;exact this) h.2.1
  ·exact eff_of (by simpa using hk'') (fun a' w' hh=> by have:=wpAnyL_of hs t'' _ a' w' hB3 hh;rw [←hl2'] at this;exact this) h.2.2
def fxB (md:Region.Mode) (ops:Array Oper) (es pu fx:List Nat):Bool:=fx.all fun i=> match ops[i]? with
 |none=> true
 |some oi=> (List.range ops.size).all fun j=> es.contains j||pu.contains j||oi.after.any fun e=> Region.binds md e && e.on==j
theorem fxB_spec (h:fxB md ops es pu fx=true):∀ i∈fx,∀ oi,ops[i]? =some oi→∀ j,j < ops.size→j∉es→j∉pu→∃ e∈oi.after,Region.binds md e=true∧e.on=j:=by
 intro i hi oi ho j hj he hp
 have h1:=List.all_eq_true.1 h i hi
 simp only [ho,List.all_eq_true,List.mem_range] at h1
 have h2:=h1 j hj
 simp only [Bool.or_eq_true,List.contains_iff_mem,he,hp,false_or,Array.any_eq_true'] at h2
 obtain ⟨e,hem,hb⟩:=h2
 simp only [Bool.and_eq_true,beq_iff_eq] at hb
 exact ⟨e,hem,hb.1,hb.2⟩
theorem wp_region_chain {id:Nat} {a:Act} {w:World} (C:World→Prop) (es pu fx:List Nat) (ord:Ord) (hm:P.follows .mixedOrders=true)
  (hB:(Region.noSelect ops && ord.len==ops.size && fxB .any ops es pu fx && chainB .any ops es ord (Array.replicate ops.size false))=true) (hC:C w.drew) (h:∀ ops',ops' =ops→wpL P ops' C pu fx Q ord a w.drew):(Code.region id ops true).wp P Q a w:=by
 have h:=h ops rfl
 simp only [Bool.and_eq_true,beq_iff_eq] at hB
 obtain ⟨⟨⟨h1,h2⟩,h4⟩,h3⟩:=hB
 refine wp_region_any hm ?_
 have:=wpAny_of_L (fxB_spec h4) _ _ _ _ (.inl hC) (wpAnyL_of (P:=P) (C:=C) (Q:=Q) (pu:=pu) (fx:=fx) h1 ord _ a w.drew h3 h)
 rw [h2] at this
 exact this
theorem wpL_nil {a:Act} {w:World} (h:Q .normal a w):wpL P ops C pu fx Q .nil a w:=h
theorem wpL_read {k:Nat} {t:Ord} {a:Act} {w:World} {o:Oper} {v:Value} (ho:ops[k]? =some o) (hp:pu.contains k=false) (hw:Region.wanted o (yielded ops a.tmps)=true)
  (h1:∀ w',C w' →(execOp a.eval o).run P w' = .ok (.value v) w') (h2:wpL P ops C pu fx Q t (a.put o.dst v) w):wpL P ops C pu fx Q (.rd k t) a w:=
 ⟨o,ho,v,fun w' hw' => .inl ⟨hw, .inl (h1 w' (hw'.resolve_left (by simpa using hp)))⟩,h2⟩
theorem wpL_pure {k:Nat} {t:Ord} {a:Act} {w:World} {o:Oper} {v:Value} (ho:ops[k]? =some o) (hw:Region.wanted o (yielded ops a.tmps)=true)
  (h1:∀ w',(execOp a.eval o).run P w' = .ok (.value v) w') (h2:wpL P ops C pu fx Q t (a.put o.dst v) w):wpL P ops C pu fx Q (.rd k t) a w:=
 ⟨o,ho,v,fun w' _=> .inl ⟨hw, .inl (h1 w')⟩,h2⟩
theorem wpL_off {k:Nat} {t:Ord} {a:Act} {w:World} {o:Oper} (ho:ops[k]? =some o) (hw:Region.wanted o (yielded ops a.tmps)=false)
  (h2:wpL P ops C pu fx Q t (a.put o.dst undef) w):wpL P ops C pu fx Q (.rd k t) a w:=
 ⟨o,ho,undef,fun w' hw' => .inr ⟨hw,rfl⟩,h2⟩
theorem effL_of {k:Nat} {X:Act→World→Prop} {a:Act} {w:World} {o:Oper} (ho:ops[k]? =some o)
  (h:∀ K:Act→World→Prop,(∀ a w,(fx.contains k=true∨C w)→X a w→K a w)→if Region.wanted o (yielded ops a.tmps)=true then Oper.wp P o a w K NoQ else False):effL P ops C fx k X a w:=by
 have:=h (fun a' w' => (k∈fx∨C w')∧X a' w') (fun _ _ h1 h2=> ⟨h1.imp (by simp) id,h2⟩)
 refine ⟨o,ho, ?_⟩
 split
 ·rename_i hw;rw [if_pos hw] at this;exact this
 ·rename_i hw;rw [if_neg hw] at this;exact this.elim
theorem wpL_eff {k:Nat} {t:Ord} {a:Act} {w:World} {o:Oper} (ho:ops[k]? =some o)
  (h:∀ K:Act→World→Prop,(∀ a w,(fx.contains k=true∨C w)→wpL P ops C pu fx Q t a w→K a w)→if Region.wanted o (yielded ops a.tmps)=true then Oper.wp P o a w K NoQ else False):wpL P ops C pu fx Q (.ef k t) a w:=effL_of ho h
theorem wpL_eff2 {k k' :Nat} {t t' :Ord} {a:Act} {w:World} (h:wpL P ops C pu fx Q (.ef k t) a w) (h' :wpL P ops C pu fx Q (.ef k' t') a w):wpL P ops C pu fx Q (.ef2 k t k' t') a w:=⟨h,h'⟩
theorem wpL_eff3 {k k' k'' :Nat} {t t' t'' :Ord} {a:Act} {w:World} (h:wpL P ops C pu fx Q (.ef k t) a w) (h' :wpL P ops C pu fx Q (.ef k' t') a w) (h'' :wpL P ops C pu fx Q (.ef k'' t'') a w):wpL P ops C pu fx Q (.ef3 k t k' t' k'' t'') a w:=⟨h,h',h''⟩
theorem wpL_skip {k:Nat} {t:Ord} {a:Act} {w:World} {o:Oper} (ho:ops[k]? =some o) (hw:Region.wanted o (yielded ops a.tmps)=false) (h:wpL P ops C pu fx Q t (a.put o.dst undef) w):wpL P ops C pu fx Q (.ef k t) a w:=
 ⟨o,ho,by rw [hw];exact h⟩
end
attribute [irreducible] wpL effL
end Go.Q
namespace Go.Q
section
variable {P:Program} {ops L:Array Oper} {C:World→Prop} {pu fx:List Nat} {Q:Exit→Act→World→Prop}
theorem lxp (HO:Go.RowKit.Hid (ops=L)) {k:Nat} {t:Ord} {a:Act} {w:World} {o:Oper} {v:Value} (h1:∀ w',(execOp a.eval o).run P w' = .ok (.value v) w') (h2:wpL P ops C pu fx Q t (a.put o.dst v) w) (ho:L[k]? =some o:=by rfl) (hw:Region.wanted o (yielded L a.tmps)=true:=by rfl):wpL P ops C pu fx Q (.rd k t) a w:=by
 obtain rfl:=HO.out
 exact wpL_pure ho hw h1 h2
theorem lxr (HO:Go.RowKit.Hid (ops=L)) {k:Nat} {t:Ord} {a:Act} {w:World} {o:Oper} {v:Value} (h1:∀ w',C w' →(execOp a.eval o).run P w' = .ok (.value v) w') (h2:wpL P ops C pu fx Q t (a.put o.dst v) w) (ho:L[k]? =some o:=by rfl) (hp:pu.contains k=false:=by rfl) (hw:Region.wanted o (yielded L a.tmps)=true:=by rfl):wpL P ops C pu fx Q (.rd k t) a w:=by
 obtain rfl:=HO.out
 exact wpL_read ho hp hw h1 h2
theorem lxo (HO:Go.RowKit.Hid (ops=L)) {k:Nat} {t:Ord} {a:Act} {w:World} {o:Oper} (h2:wpL P ops C pu fx Q t (a.put o.dst undef) w) (ho:L[k]? =some o:=by rfl) (hw:Region.wanted o (yielded L a.tmps)=false:=by rfl):wpL P ops C pu fx Q (.rd k t) a w:=by
 obtain rfl:=HO.out
 exact wpL_off ho hw h2
theorem lxe (HO:Go.RowKit.Hid (ops=L)) {k:Nat} {t:Ord} {a:Act} {w:World} {o:Oper} (h:∀ K:Act→World→Prop,(∀ a w,(fx.contains k=true∨C w)→wpL P ops C pu fx Q t a w→K a w)→if Region.wanted o (yielded ops a.tmps)=true then Oper.wp P o a w K NoQ else False) (ho:L[k]? =some o:=by rfl):wpL P ops C pu fx Q (.ef k t) a w:=by
 obtain rfl:=HO.out
 exact wpL_eff ho h
end
end Go.Q
namespace Go.Q
open Go.RowKit Go.Proofs
theorem quiet_same {P:Program} {f:FuncId} {args:Array Value} {w:World} {n:Nat} {v:Value} (h:Calls P f args (w.drewN n) fun e w' => e= .returned v∧w.drewN n=w'):Calls P f args (w.drewN n) fun e w'' => e= .returned v∧∃ m,w'' =w.drewN m:=
 Calls.quiet_of_same (h.mono fun _ _ ⟨he,hm⟩=> ⟨he,hm.symm⟩)
section
variable {w:World} {ow:Nat→Own} {x:Nat} {B:SB} {s:SSt}
theorem sParent (h:SAt w ow x B s) {g:Nat} (gv:Int) (hgv:gv=(g:Int)) (hg:g < s.G):Calls Tryz.prog 174 #[ptr x, .int .i64 gv] w fun e w' => e= .returned (.int .i64 (s.par g))∧w=w' :=by
 subst hgv
 obtain ⟨c0,_⟩:=h.gp hg
 have c2:=h.look.2.2.1
 have i0:(0:Int)≤g:=by omega
 have i1:(g:Int) < s.G:=by omega
 go_enter Tryz.func174,Tryz.ntmps174
 go_wp2
 go_ret
 exact ⟨rfl,rfl⟩
end
abbrev opv (k cpu task group weight tO ticks mask:Int):Value:= .agg #[.int .u8 k, .int .i64 cpu, .int .i64 task, .int .i64 group, .int .i64 weight, .int .i64 tO, .int .i64 ticks, .int .u64 mask]
theorem named_yes (id:Int) (h0:1≤id) (h1:id < 65536) (w:World):Calls Tryz.prog 221 #[.int .i64 id] w fun e w' => e= .returned (.bool true)∧w=w' :=by
 go_enter Tryz.func221,Tryz.ntmps221
 go_wp2
 go_ret
 exact ⟨by simp;omega,rfl⟩
theorem sweighs_yes (n:Int) (h1:1≤n) (h2:n≤65536) (w:World):Calls Tryz.prog 353 #[.int .i64 n] w fun e w' => e= .returned (.bool true)∧w=w' :=by
 go_enter Tryz.func353,Tryz.ntmps353
 go_wp2
 go_ret
 exact ⟨by simp,rfl⟩
theorem schedSome (x:Nat) (ca:Option Addr) (n cap:Nat) (hn:0 < n) (w:World) (c:w.cell? ⟨x,3,none⟩=some (.slice ca n cap)):Calls Tryz.prog 71 #[.pointer (some ⟨x,0,none⟩)] w fun e w' => e= .returned (.bool true)∧w=w' :=by
 have hn' :(0:Int) < (n:Int):=by omega
 go_enter Tryz.func71,Tryz.ntmps71
 go_wp2
 go_ret
 exact ⟨by simp,rfl⟩
theorem schedCpu (x:Nat) (ca:Option Addr) (n cap:Nat) (cpu:Int) (h0:0≤cpu) (h1:cpu < n) (w:World) (c:w.cell? ⟨x,3,none⟩=some (.slice ca n cap)):Calls Tryz.prog 222 #[.pointer (some ⟨x,0,none⟩), .int .i64 cpu] w fun e w' => e= .returned (.bool true)∧Below w.heap.size w w' :=by
 go_enter Tryz.func222,Tryz.ntmps222
 go_wp2
 go_ret
 exact ⟨by simp,belowX⟩
set_option maxRecDepth 100000 in
theorem check_cpu (x C cap:Nat) (ca:Option Addr) (k cpu task group weight tO ticks mask:Int) (h0:0≤cpu) (h1:cpu < C) (w:World) (lx:x < w.heap.size) (c:w.cell? ⟨x,3,none⟩=some (.slice ca C cap)):
  Calls Tryz.prog 351 #[opv k cpu task group weight tO ticks mask, .pointer (some ⟨x,0,none⟩)] w fun e w' => e= .returned (.int .i64 0)∧Below w.heap.size w w' :=by
 go_enter Tryz.func351,Tryz.ntmps351
 go_wp2_with fail
 refine (schedCpu x ca C cap cpu h0 h1 _ (by simpa [World.cell?_alloc_lt,lx] using c)).mono ?_;rintro e w1 ⟨rfl,hb⟩
 go_wp2
 go_ret
 exact ⟨rfl,belowX⟩
set_option maxRecDepth 100000 in
theorem kind_spawn (cpu task group weight tO ticks mask:Int) (w:World):Calls Tryz.prog 72 #[opv 1 cpu task group weight tO ticks mask] w fun e w' => e= .returned (.iface 238 (opv 1 cpu task group weight tO ticks mask))∧Below w.heap.size w w' :=by
 go_enter Tryz.func72,Tryz.ntmps72
 go_wp2
 go_ret
 exact ⟨rfl,belowX⟩
set_option maxRecDepth 100000 in
theorem kind_tick (cpu task group weight tO ticks mask:Int) (w:World):Calls Tryz.prog 72 #[opv 5 cpu task group weight tO ticks mask] w fun e w' => e= .returned (.iface 244 (opv 5 cpu task group weight tO ticks mask))∧Below w.heap.size w w' :=by
 go_enter Tryz.func72,Tryz.ntmps72
 go_wp2
 go_ret
 exact ⟨rfl,belowX⟩
set_option maxRecDepth 100000 in
theorem kind_pick (cpu task group weight tO ticks mask:Int) (w:World):Calls Tryz.prog 72 #[opv 6 cpu task group weight tO ticks mask] w fun e w' => e= .returned (.iface 245 (opv 6 cpu task group weight tO ticks mask))∧Below w.heap.size w w' :=by
 go_enter Tryz.func72,Tryz.ntmps72
 go_wp2
 go_ret
 exact ⟨rfl,belowX⟩
end Go.Q
namespace Go.Q
open Go.RowKit Go.Proofs
section
variable {w:World} {ow:Nat→Own} {x:Nat} {B:SB} {s:SSt}
theorem SAt.setWork (h:SAt w ow x B s) (v:Int):SAt (w.setCell ⟨x,9,none⟩ (.int .i64 v)) ow x B { s with work:=v }:=by
 have hx:=h.cx
 refine h.set .x ((Mod.refl _ w).setCell (p:=⟨x,9,none⟩) (.inr ⟨hx.1,by simp⟩) _) ⟨hx.1, ?_⟩ ?_
 ·refine (hx.2.set (i:=9) (by omega) _).congr (fun i hi=> ?_)
  rcases (by omega:i=0∨i=1∨i=2∨i=3∨i=4∨i=5∨i=6∨i=7∨i=8∨i=9) with rfl|rfl|rfl|rfl|rfl|rfl|rfl|rfl|rfl|rfl <;> rfl
 ·intro t' ht' hp
  cases t' with
  |x=> exact absurd rfl ht'
  |_=> exact hp
theorem SAt.modX (h:SAt w ow x B s) (i:Nat) (v:Value):Mod (fun b=> ow b≠ .no) w (w.setCell ⟨x,i,none⟩ v):=(Mod.refl _ w).setCell (p:=⟨x,i,none⟩) (.inr (by show ow x≠ .no;rw [h.cx.1];simp)) _
theorem SAt.setCur (h:SAt w ow x B s) {c:Nat} (hc:c < s.C) (v:Int):SAt (w.setCell ⟨B.ub,c,none⟩ (.int .i64 v)) ow x B { s with current:=upd1 s.current c v }:=by
 have hx:=h.1 .ub
 refine h.set .ub ((Mod.refl _ w).setCell (p:=⟨B.ub,c,none⟩) (.inr ⟨hx.1,by simp⟩) _) ⟨hx.1, ?_⟩ ?_
 ·refine (hx.2.set hc _).congr (fun i hi=> ?_)
  simp only [ints,upd1]
  split <;> rfl
 ·intro t' ht' hp
  cases t' with
  |ub=> exact absurd rfl ht'
  |_=> exact hp
theorem SAt.modU (h:SAt w ow x B s) (i:Nat) (v:Value):Mod (fun b=> ow b≠ .no) w (w.setCell ⟨B.ub,i,none⟩ v):=(Mod.refl _ w).setCell (p:=⟨B.ub,i,none⟩) (.inr (by show ow B.ub≠ .no;rw [(h.1 .ub).1];simp)) _
theorem SAt.setClk (h:SAt w ow x B s) {c:Nat} (hc:c < s.C) (v:Int):SAt (w.setCell ⟨B.cb,c,none⟩ (.int .i64 v)) ow x B { s with clocks:=upd1 s.clocks c v }:=by
 have hx:=h.1 .cb
 refine h.set .cb ((Mod.refl _ w).setCell (p:=⟨B.cb,c,none⟩) (.inr ⟨hx.1,by simp⟩) _) ⟨hx.1, ?_⟩ ?_
 ·refine (hx.2.set hc _).congr (fun i hi=> ?_)
  simp only [ints,upd1]
  split <;> rfl
 ·intro t' ht' hp
  cases t' with
  |cb=> exact absurd rfl ht'
  |_=> exact hp
theorem SAt.modC (h:SAt w ow x B s) (i:Nat) (v:Value):Mod (fun b=> ow b≠ .no) w (w.setCell ⟨B.cb,i,none⟩ v):=(Mod.refl _ w).setCell (p:=⟨B.cb,i,none⟩) (.inr (by show ow B.cb≠ .no;rw [(h.1 .cb).1];simp)) _
theorem SAt.cp (h:SAt w ow x B s) {c:Nat} (hc:c < s.C):w.cell? ⟨B.cb,c,none⟩=some (.int .i64 (s.clocks c))∧w.cell? ⟨B.ub,c,none⟩=some (.int .i64 (s.current c))∧w.cell? ⟨B.lb,c,none⟩=some (.int .i64 (s.loads c)):=
 ⟨(h.1 .cb).2.cell hc,(h.1 .ub).2.cell hc,(h.1 .lb).2.cell hc⟩
theorem SAt.addTask {w1:World} (h:SAt w ow x B s) (t:TSt) (tkb:Nat) (hm:Mod (One B.tb) w w1) (hlo:w.heap.size≤tkb) (hr:Row w1 tkb 8 (trow t)) (him:IMap w1 .i64 B.tb [(t.id,ptr tkb)]):
  SAt w1 (fun b=> if b=tkb then .tk else ow b) x { B with tk:=tkb } { s with task:=some t }:=by
 have ho:∀ b,b < w.heap.size→(if b=tkb then Own.tk else ow b)=ow b:=fun b hb=> if_neg (by omega)
 have hz:=hm.size
 have hP:∀ t',t' ≠ .tb→Part w1 (fun b=> if b=tkb then Own.tk else ow b) x B s t' :=fun t' ht' => (h.1 t').mod hm (fun b e hn hS=> ht' (by rw [←e,hS,(h.1 .tb).1])) ho
 refine ⟨fun t' => ?_,fun b hb=> ?_⟩
 ·cases t' with
  |tb=> exact ⟨(ho _ (h.1 .tb).2.lt).trans (h.1 .tb).1,him⟩
  |tk=>
   intro t1 e
   obtain rfl:=Option.some.inj e
   exact ⟨by simp,hr⟩
  |no=> trivial
  |x=> exact hP .x (by simp)
  |gb=> exact hP .gb (by simp)
  |cb=> exact hP .cb (by simp)
  |ub=> exact hP .ub (by simp)
  |lb=> exact hP .lb (by simp)
  |qo=> exact hP .qo (by simp)
  |ao=> exact hP .ao (by simp)
  |qi g=> exact hP (.qi g) (by simp)
  |ai g=> exact hP (.ai g) (by simp)
  |q g c=> exact hP (.q g c) (by simp)
 ·dsimp only at hb
  split at hb
  ·rename_i e;rw [e];exact hr.lt
  ·have:=h.2 b hb;omega
end
def chargeQ (t:Int):QSt→QSt
 | .e f l=> .e f l
 | .o f l id v r k=> .o (mxI f (v+(t * 1048576+r) / k)) l id (v+(t * 1048576+r) / k) ((t * 1048576+r) % k) k
def tickQ (par:Nat→Int) (c:Nat) (t:Int):Nat→Nat→(Nat→Nat→QSt)→Nat→Nat→QSt
 |0,g,f=> upd2 f g c (chargeQ t (f g c))
 |d+1,g,f=> tickQ par c t d (par g).toNat (upd2 f g c (chargeQ t (f g c)))
theorem tickQ_eq (par wt:Nat→Int) (c:Nat) (t:Int) {G:Nat} (hpar:∀ g,0 < g→g < G→0≤par g∧par g < g):∀ (d g:Nat) (m k:Int) (f:Nat→Nat→QSt) (x y:Nat),g < G→Dep par g d→
  tickQ par c t d g f x y=if y=c∧chn par wt d g m k x≠none then chargeQ t (f x y) else f x y
 |0,g,m,k,f,x,y,hg,hd=> by
  rw [chn_zero]
  simp only [tickQ,upd2]
  by_cases hy:y=c <;> by_cases hx:x=g <;> simp [hy,hx]
 |d+1,g,m,k,f,x,y,hg,hd=> by
  obtain ⟨h0,h1,h2⟩:=hd.up'
  have hp:=hpar g h0 hg
  rw [chn_succ]
  simp only [tickQ]
  rw [tickQ_eq par wt c t hpar d _ (65536+(g:Int)) (wt g) _ x y (by omega) h2]
  by_cases hx:x=g
  ·subst hx
   have hn:chn par wt d (par x).toNat (65536+(x:Int)) (wt x) x=none:=Classical.byContradiction fun h=> by have:=chn_le hpar d _ _ _ x (by omega) h2 h;omega
   rw [hn]
   by_cases hy:y=c <;> simp [hy,upd2]
  ·rw [if_neg hx,upd2_other _ _ _ _ _ _ (by rintro ⟨rfl,_⟩;exact hx rfl)]
end Go.Q
