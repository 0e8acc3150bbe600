/- A part of the proof that TopGreat answers true: what some of the functions on its road compute. -/
import Derived.Test.YtckddephdbhagaaGreatDoorQ30
set_option linter.unusedVariables false
set_option linter.unusedSimpArgs false
set_option linter.unnecessarySimpa false
namespace Go.Q
open Go.RowKit Go.Proofs
def cn (C ng nc nu nt ns K j:Nat):SOwn→Nat
 | .no=> 0
 | .gb=> ng
 | .cl=> nc
 | .cu=> nu
 | .tk=> nt
 | .so=> ns
 | .si g=> if g < K then C else if g=K then j else 0
def HD (w:World) (xs nx:Nat) (A:ASt) (pv:SOwn→Value):Prop:=Row w xs 8 (fl [.int .i64 nx, .int .i64 A.C, .int .u64 A.cr,pv .gb,pv .cl,pv .cu,pv .tk,pv .so])
def hix:SOwn→Nat
 | .gb=> 3
 | .cl=> 4
 | .cu=> 5
 | .tk=> 6
 | .so=> 7
 |_=> 8
section
variable {w0 w W wA:World} {s xs nx:Nat} {A:ASt} {cnt:SOwn→Nat} {pv:SOwn→Value} {ow:Nat→SOwn} {L:List Nat}
theorem HD.mod {S:Nat→Prop} {w' :World} (h:HD w xs nx A pv) (hm:Mod S w w') (hs:¬S xs):HD w' xs nx A pv:=Row.mod h hm hs
theorem PI.push (I:PI w0 w s xs A cnt pv ow) (H:HD w xs nx A pv) (T:SrcAt w s w0.heap.size L) (t:SOwn) (ht:hix t < 8) {v:Value} {n:Nat} (hv:pv t=v) (hn:cnt t=n) {cs:List Value} {gs cap:Nat} (hW:Mod No w W)
  (hA:Appd W wA w0.heap.size (pty t) (psz t) v n (pls A pv t n) cs gs cap) (hcs:pls A pv t (n+1)=pls A pv t n++cs):
  ∃ pv' ow',PI w0 (wA.setCell ⟨xs,hix t,none⟩ (slc gs (n+1) cap)) s xs A (fun u=> if u=t then cnt u+1 else cnt u) pv' ow' ∧HD (wA.setCell ⟨xs,hix t,none⟩ (slc gs (n+1) cap)) xs nx A pv' ∧SrcAt (wA.setCell ⟨xs,hix t,none⟩ (slc gs (n+1) cap)) s w0.heap.size L∧(∀ g,pv' (.si g)=pv (.si g))∧∀ b,b < w.heap.size→ow b= .no→ow' b= .no:=by
 subst hv hn
 have htn:t≠ .no:=by rintro rfl;simp [hix] at ht
 have hts:∀ g,t≠ .si g:=by rintro g rfl;simp [hix] at ht
 have lx:=Row.lt H
 have lW:=hW.size
 have hxo:(pv t).ownBlock≠some xs:=fun h=> by
  have:=I.at_ t xs h
  rw [I.xno] at this
  exact this.2 this.1.symm
 have hgx:gs≠xs:=by
  rintro rfl
  rcases hA.at_ with h|h
  ·exact hxo h
  ·omega
 have M1:Mod (fun b=> b=xs∨(pv t).ownBlock=some b) w wA:=Mod.trans (hW.no _) (hA.mod.mono (fun b _ h=> .inr h)) (fun _ _ h=> h)
 have M2:Mod (fun b=> b=xs) wA (wA.setCell ⟨xs,hix t,none⟩ (slc gs (cnt t+1) cap)):=(Mod.refl (fun b=> b=xs) wA).setCell (p:=⟨xs,hix t,none⟩) (.inr rfl) _
 have M:=Mod.trans M1 (M2.mono (fun b _ h=> Or.inl h)) (fun _ _ h=> h)
 have O:(wA.setCell ⟨xs,hix t,none⟩ (slc gs (cnt t+1) cap)).ownsRow w0.heap.size (pty t) (psz t) (slc gs (cnt t+1) cap) (cnt t+1) (pls A pv t (cnt t+1)):=by
  rw [hcs]
  exact ownsRow_mod hA.own M2 (fun b hb e=> by have:gs=b:=Option.some.inj hb;exact hgx (this.trans e))
 obtain ⟨ow',J,Jn⟩:=I.upd t htn (fun g _=> hts g) M O (hA.at_.imp id (by omega)) lx
 refine ⟨_,ow',J, ?_, ?_,fun g=> if_neg (fun e=> hts g e.symm),Jn⟩
 ·refine (Row.set (Row.mod H hW (fun h=> h)|>.mod hA.mod hxo) (i:=hix t) ht _).congr (fun i hi=> ?_)
  cases t <;> simp only [hix] at ht ⊢ <;> first|omega|(rcases (by omega:i=0∨i=1∨i=2∨i=3∨i=4∨i=5∨i=6∨i=7) with rfl|rfl|rfl|rfl|rfl|rfl|rfl|rfl <;> simp [fl])
 ·refine T.mod M (fun b hb h=> ?_)
  rcases h with rfl|h
  ·have:=I.xge;omega
  ·have hu:=I.at_ t b h
   have:=(I.lt b (by rw [hu.1];exact hu.2)).1
   omega
structure SI (w0 w:World) (s xs zb nx:Nat) (A:ASt) (cnt:SOwn→Nat) (pv:SOwn→Value) (ow:Nat→SOwn) (L:List Nat):Prop where
 p:PI w0 w s xs A cnt pv ow
 hd:HD w xs nx A pv
 src:SrcAt w s w0.heap.size L
 z:Row w zb 8 (fl [.int .i64 0, .int .i64 0, .int .u64 0, .slice none 0 0, .slice none 0 0, .slice none 0 0, .slice none 0 0, .slice none 0 0])
 zo:ow zb= .no
 zg:w0.heap.size≤zb
 zx:zb≠xs
variable {zb:Nat} {L' :List Nat} {w' :World}
theorem SI.no (h:SI w0 w s xs zb nx A cnt pv ow L) (hm:Mod No w w'):SI w0 w' s xs zb nx A cnt pv ow L:=
 ⟨h.p.no hm,h.hd.mod hm (fun h=> h),h.src.mod hm (fun _ _ h=> h),h.z.mod hm (fun h=> h),h.zo,h.zg,h.zx⟩
theorem SI.next (h:SI w0 w s xs zb nx A cnt pv ow L) (hm:Mod (One s) w w') (T:SrcAt w' s w0.heap.size L'):SI w0 w' s xs zb nx A cnt pv ow L' :=by
 have hs:=h.p.slt
 refine ⟨h.p.src hm,h.hd.mod hm (fun e=> ?_),T,h.z.mod hm (fun e=> ?_),h.zo,h.zg,h.zx⟩
 ·have:=h.p.xge;have:xs=s:=e;omega
 ·have:=h.zg;have:zb=s:=e;omega
theorem SI.push (h:SI w0 w s xs zb nx A cnt pv ow L) (t:SOwn) (ht:hix t < 8) {v:Value} {n:Nat} (hv:pv t=v) (hn:cnt t=n) {cs:List Value} {gs cap:Nat} (hW:Mod No w W)
  (hA:Appd W wA w0.heap.size (pty t) (psz t) v n (pls A pv t n) cs gs cap) (hcs:pls A pv t (n+1)=pls A pv t n++cs) {cnt' :SOwn→Nat} (hcn:∀ u,cnt' u=if u=t then cnt u+1 else cnt u):
  ∃ pv' ow',SI w0 (wA.setCell ⟨xs,hix t,none⟩ (slc gs (n+1) cap)) s xs zb nx A cnt' pv' ow' L∧∀ g,pv' (.si g)=pv (.si g):=by
 obtain ⟨pv',ow',I,H,T,hp,ho⟩:=h.p.push h.hd h.src t ht hv hn hW hA hcs
 refine ⟨pv',ow',⟨I.at_of hcn,H,T, ?_,ho _ h.z.lt h.zo,h.zg,h.zx⟩,hp⟩
 refine ((h.z.mod hW (fun h=> h)).mod hA.mod (fun e=> ?_)).setOther (fun e=> h.zx e.symm) _
 have:=h.p.at_ t zb (by rw [hv];exact e)
 rw [h.zo] at this
 exact this.2 this.1.symm
theorem SI.pushS (h:SI w0 w s xs zb nx A cnt pv ow L) (K:Nat) {v:Value} {n:Nat} (hv:pv (.si K)=v) (hn:cnt (.si K)=n) (hso:cnt .so≤K) {cs:List Value} {gs cap:Nat} (hW:Mod No w W)
  (hA:Appd W wA w0.heap.size 122 3 v n (spl (A.spots K) n) cs gs cap) (hcs:spl (A.spots K) (n+1)=spl (A.spots K) n++cs) {cnt' :SOwn→Nat} (hcn:∀ u,cnt' u=if u= .si K then cnt u+1 else cnt u):
  ∃ pv' ow',SI w0 wA s xs zb nx A cnt' pv' ow' L∧pv' (.si K)=slc gs (n+1) cap∧∀ t,t≠ .si K→pv' t=pv t:=by
 subst hv hn
 have lW:=hW.size
 have lx:=Row.lt h.hd
 have hxo:(pv (.si K)).ownBlock≠some xs:=fun hb=> by
  have:=h.p.at_ (.si K) xs hb
  rw [h.p.xno] at this
  exact this.2 this.1.symm
 have hzo:(pv (.si K)).ownBlock≠some zb:=fun hb=> by
  have:=h.p.at_ (.si K) zb hb
  rw [h.zo] at this
  exact this.2 this.1.symm
 have M1:Mod (fun b=> (pv (.si K)).ownBlock=some b) w wA:=Mod.trans (hW.no _) hA.mod (fun _ _ h=> h)
 obtain ⟨ow',J,ho⟩:=h.p.upd (.si K) (by simp) (fun g hg e=> by simp at e;omega) (M1.mono (fun b _ h=> .inr h)) (by show wA.ownsRow w0.heap.size 122 3 _ _ (spl (A.spots K) (cnt (.si K)+1));rw [hcs];exact hA.own) (hA.at_.imp id (by omega)) lx
 refine ⟨_,ow',⟨J.at_of hcn, ?_,h.src.mod M1 (fun b hb hS=> ?_),h.z.mod M1 hzo,ho _ h.z.lt h.zo,h.zg,h.zx⟩,if_pos rfl,fun t ht=> if_neg ht⟩
 ·exact h.hd.mod M1 hxo
 ·have hu:=h.p.at_ (.si K) b hS
  have:=(h.p.lt b (by rw [hu.1];exact hu.2)).1
  omega
theorem SI.own (h:SI w0 w s xs zb nx A cnt pv ow L) (t:SOwn) {n:Nat} (hn:cnt t=n):∃ o c,pv t= .slice o n c∧w.ownsRow w0.heap.size (pty t) (psz t) (.slice o n c) n (pls A pv t n)∧(Value.slice o n c).ownBlock≠some xs∧∀ b,w0.heap.size≤b→(∀ b',(Value.slice o n c).ownBlock=some b' →b' < b)→(Value.slice o n c).ownBlock≠some b:=by
 subst hn
 obtain ⟨o,c,e⟩:=own_slice (h.p.own t)
 refine ⟨o,c,e,by rw [←e];exact h.p.own t,fun hb=> ?_,fun b _ hlt hb=> by have:=hlt b hb;omega⟩
 rw [←e] at hb
 have:=h.p.at_ t xs hb
 rw [h.p.xno] at this
 exact this.2 this.1.symm
theorem SI.own_lt (h:SI w0 w s xs zb nx A cnt pv ow L) (t:SOwn) {b:Nat} (hb:(pv t).ownBlock=some b):b < w.heap.size∧w0.heap.size≤b:=by
 have:=h.p.at_ t b hb
 have:=h.p.lt b (by rw [this.1];exact this.2)
 omega
end
end Go.Q
