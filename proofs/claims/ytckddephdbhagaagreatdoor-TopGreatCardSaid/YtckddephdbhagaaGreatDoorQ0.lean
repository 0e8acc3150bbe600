/- A part of the proof that TopGreat answers true: what some of the functions on its road compute. -/
import Derived.WalkKit
import Derived.WalkSpells
import Derived.WalkLawsBesides
import Derived.Deep.QuietTactic
import Derived.BigQuiet
import Derived.Deep.RegionHeld3
import Derived.StillTailTactics
import Derived.Lib.Hide
import Derived.Deep.AppendLies
import Derived.Test.YtckddephdbhagaaGreatDoorProg
set_option linter.unusedVariables false
set_option linter.unusedSimpArgs false
/- Plain lemmas on worlds:which blocks may have changed between two worlds,and blocks whose cells are known. -/
namespace Go.Q
open Go.RowKit
structure Mod (S:Nat→Prop) (w w' :World):Prop where
 os:w'.os=w.os
 tape:w'.tape=w.tape
 output:w'.output=w.output
 size:w.heap.size≤w'.heap.size
 keep:∀ b,b < w.heap.size→¬S b→w'.heap[b]? =w.heap[b]?
def No:Nat→Prop:=fun _=> False
def One (a:Nat):Nat→Prop:=fun b=> b=a
def Or (S T:Nat→Prop):Nat→Prop:=fun b=> S b∨T b
section
variable {S T:Nat→Prop} {w w' w'' :World}
theorem Mod.refl (S:Nat→Prop) (w:World):Mod S w w:=⟨rfl,rfl,rfl,Nat.le_refl _,fun _ _ _=> rfl⟩
theorem Mod.trans (h:Mod S w w') (k:Mod T w' w'') (ht:∀ b,b < w.heap.size→T b→S b):Mod S w w'' :=
 ⟨k.os.trans h.os,k.tape.trans h.tape,k.output.trans h.output,Nat.le_trans h.size k.size,fun b hb hs=>
  (k.keep b (Nat.lt_of_lt_of_le hb h.size) (fun t=> hs (ht b hb t))).trans (h.keep b hb hs)⟩
theorem Mod.mono (h:Mod S w w') (ht:∀ b,b < w.heap.size→S b→T b):Mod T w w' :=
 ⟨h.os,h.tape,h.output,h.size,fun b hb hs=> h.keep b hb (fun s=> hs (ht b hb s))⟩
theorem Mod.of_below (h:Below w.heap.size w w') (S:Nat→Prop):Mod S w w' :=
 ⟨h.os,h.tape,h.output,h.size,fun b hb _=> h.block b hb⟩
theorem Mod.no (h:Mod No w w') (S:Nat→Prop):Mod S w w' :=h.mono (fun _ _ x=> x.elim)
theorem Mod.below (h:Mod No w w'):Below w.heap.size w w' :=
 ⟨h.os,h.tape,h.output,h.size,fun b hb=> h.keep b hb (fun x=> x)⟩
theorem Mod.below' (h:Mod S w w') {B:Nat} (hB:B≤w.heap.size) (hs:∀ b,S b→B≤b):Below B w w' :=
 ⟨h.os,h.tape,h.output,h.size,fun b hb=> h.keep b (Nat.lt_of_lt_of_le hb hB) (fun x=> by have:=hs b x;omega)⟩
theorem Mod.alloc (h:Mod S w w') (o:Obj):Mod S w (w'.alloc o):=
 ⟨h.os,h.tape,h.output,by simp only [World.size_alloc];exact Nat.le_succ_of_le h.size,fun b hb hs=>
  (Below.heap_alloc w' o b (Nat.lt_of_lt_of_le hb h.size)).trans (h.keep b hb hs)⟩
theorem Mod.drew (h:Mod S w w'):Mod S w w'.drew:=⟨h.os,h.tape,h.output,h.size,h.keep⟩
theorem Mod.drewN (h:Mod S w w') (n:Nat):Mod S w (w'.drewN n):=⟨h.os,h.tape,h.output,h.size,h.keep⟩
theorem Mod.setCell (h:Mod S w w') {p:Addr} (hp:w.heap.size≤p.block∨S p.block) (v:Value):Mod S w (w'.setCell p v):=
 ⟨h.os,h.tape,h.output,by simp only [World.size_setCell];exact h.size,fun b hb hs=> by
  rw [Below.heap_setCell _ _ _ _ (by rintro rfl;rcases hp with hp|hp;omega;exact hs hp)];exact h.keep b hb hs⟩
theorem Mod.setObj (h:Mod S w w') {r:Nat} (hp:w.heap.size≤r∨S r) (o:Obj):Mod S w { w' with heap:=w'.heap.setIfInBounds r o }:=
 ⟨h.os,h.tape,h.output,by simp only [Array.size_setIfInBounds];exact h.size,fun b hb hs=> by
  show (w'.heap.setIfInBounds r o)[b]? =_
  rw [Array.getElem?_setIfInBounds_ne (by rintro rfl;rcases hp with hp|hp;omega;exact hs hp)];exact h.keep b hb hs⟩
theorem Mod.grown (h:Mod S w w') {row:Option Nat} (hg:w'.grownBy w'' row) (hr:∀ k,row=some k→w.heap.size≤k∨S k):Mod S w w'' :=
 ⟨hg.os.trans h.os,hg.tape.trans h.tape,hg.output.trans h.output,Nat.le_trans h.size hg.size,fun b hb hs=> by
  rw [hg.block b (Nat.lt_of_lt_of_le hb h.size) (fun e=> by rcases hr b e.symm with hp|hp;omega;exact hs hp)];exact h.keep b hb hs⟩
theorem Mod.heap (h:Mod S w w') {b:Nat} {o:Obj} (hb:w.heap[b]? =some o) (hs:¬S b):w'.heap[b]? =some o:=by
 rw [h.keep b (lt_of_block hb) hs];exact hb
end
theorem below_drewN {B:Nat} {a w:World} {n:Nat} (h:Below B a w):Below B a (w.drewN n):=⟨h.os,h.tape,h.output,h.size,h.block⟩
def Row (w:World) (b N:Nat) (F:Nat→Value):Prop:=
 ∃ cs ty,w.heap[b]? =some (.cells cs ty (0,0))∧N≤cs.size∧∀ i,i < N→cs[i]? =some (F i)
section
variable {S:Nat→Prop} {w w' :World} {b N:Nat} {F G:Nat→Value}
theorem Row.lt (h:Row w b N F):b < w.heap.size:=by obtain ⟨cs,ty,hb,_⟩:=h;exact lt_of_block hb
theorem Row.cell (h:Row w b N F) {i:Nat} (hi:i < N):w.cell? ⟨b,i,none⟩=some (F i):=by
 obtain ⟨cs,ty,hb,_,hc⟩:=h
 simp only [World.cell?,hb]
 exact hc i hi
theorem Row.free (h:Row w b N F) (i:Nat):w.frozen? ⟨b,i,none⟩=false:=by
 obtain ⟨cs,ty,hb,_⟩:=h
 simp [World.frozen?,hb]
theorem Row.mod (h:Row w b N F) (hm:Mod S w w') (hs:¬S b):Row w' b N F:=by
 obtain ⟨cs,ty,hb,r⟩:=h
 exact ⟨cs,ty,hm.heap hb hs,r⟩
theorem Row.below (h:Row w b N F) {B:Nat} (hm:Below B w w') (hb:b < B):Row w' b N F:=by
 obtain ⟨cs,ty,hc,r⟩:=h
 exact ⟨cs,ty,(hm.block b hb).trans hc,r⟩
theorem Row.congr (h:Row w b N F) (e:∀ i,i < N→F i=G i):Row w b N G:=by
 obtain ⟨cs,ty,hb,hn,hc⟩:=h
 exact ⟨cs,ty,hb,hn,fun i hi=> by rw [hc i hi,e i hi]⟩
theorem Row.take (h:Row w b N F) {M:Nat} (hM:M≤N):Row w b M F:=by
 obtain ⟨cs,ty,hb,hn,hc⟩:=h
 exact ⟨cs,ty,hb,by omega,fun i hi=> hc i (by omega)⟩
theorem Row.set (h:Row w b N F) {i:Nat} (hi:i < N) (v:Value):Row (w.setCell ⟨b,i,none⟩ v) b N (fun j=> if j=i then v else F j):=by
 obtain ⟨cs,ty,hb,hn,hc⟩:=h
 refine ⟨cs.setIfInBounds i v,ty, ?_,by simpa using hn,fun j hj=> ?_⟩
 ·simp [World.setCell,Array.getElem?_modify,hb]
 ·by_cases e:j=i
  ·subst e;simp [Array.getElem?_setIfInBounds];omega
  ·simp [e,Array.getElem?_setIfInBounds_ne (Ne.symm e),hc j hj]
theorem Row.setOther (h:Row w b N F) {p:Addr} (hp:p.block≠b) (v:Value):Row (w.setCell p v) b N F:=by
 obtain ⟨cs,ty,hb,r⟩:=h
 exact ⟨cs,ty,by rw [Below.heap_setCell _ _ _ _ (Ne.symm hp)];exact hb,r⟩
theorem Row.alloc (h:Row w b N F) (o:Obj):Row (w.alloc o) b N F:=by
 obtain ⟨cs,ty,hb,r⟩:=h
 exact ⟨cs,ty,by rw [Below.heap_alloc _ _ _ (lt_of_block hb)];exact hb,r⟩
theorem Row.new (w:World) (cs:Array Value) (ty:TypeId) (hN:N≤cs.size) (h:∀ i,i < N→cs[i]? =some (F i)):Row (w.alloc (.cells cs ty)) w.heap.size N F:=
 ⟨cs,ty,heap_alloc_new w _,hN,h⟩
theorem Row.drew (h:Row w b N F):Row w.drew b N F:=h
theorem Row.drewN (h:Row w b N F) (n:Nat):Row (w.drewN n) b N F:=h
theorem Row.setObj (h:Row w b N F) {r:Nat} (hr:r≠b) (o:Obj):Row { w with heap:=w.heap.setIfInBounds r o } b N F:=by
 obtain ⟨cs,ty,hb,rr⟩:=h
 exact ⟨cs,ty,by show (w.heap.setIfInBounds r o)[b]? =_;rw [Array.getElem?_setIfInBounds_ne hr];exact hb,rr⟩
end
theorem news_new (w:World) (cs:List Value) (t:TypeId) (j:Nat) (u:Value) (h:cs[j]? =some u):(w.alloc (.cells cs.toArray t)).cell? ((⟨w.heap.size,0,none⟩:Addr).add j)=some u:=by
 have hadd:(⟨w.heap.size,0,none⟩:Addr).add j=⟨w.heap.size,j,none⟩:=by unfold Addr.add;split <;> simp_all
 rw [hadd,World.cell?_alloc_new]
 simpa using h
theorem news_drew {w:World} {a:Addr} {cs:List Value} (h:∀ j u,cs[j]? =some u→w.cell? (a.add j)=some u):∀ j u,cs[j]? =some u→w.drew.cell? (a.add j)=some u:=h
theorem belowX {w w' :World} (h:Mod No w w' :=by repeat (first|exact Mod.refl _ _|exact Mod.of_below (by assumption) _|apply Mod.alloc|apply Mod.drew|apply Mod.drewN|(refine Mod.setCell ?_ (.inl (by simp <;> omega)) _)|(refine Mod.trans ?_ (Mod.of_below (by assumption) No) (fun _ _ h=> h)))):Below w.heap.size w w' :=h.below
theorem modX {S:Nat→Prop} {w w' :World} (h:Mod S w w' :=by repeat (first|exact Mod.refl _ _|assumption|exact Mod.of_below (by assumption) _|apply Mod.drew|apply Mod.drewN|(refine Mod.setCell ?_ (by first|(left;simp <;> omega)|(right;simp [One])) _)|apply Mod.alloc)):Mod S w w' :=h
theorem Mod.sc {S:Nat→Prop} {w w' :World} {p:Addr} {v:Value} (h:Mod S w w') (hp:w.heap.size≤p.block:=by first|exact Nat.le_refl _|omega|(simp;done)|(simp;omega)):Mod S w (w'.setCell p v):=h.setCell (.inl hp) v
end Go.Q
/- Plain lemmas on maps with whole numbers as keys:what a look-up,a store and a delete do to a map whose entries are known as a list. -/
namespace Go.Q
open Go.RowKit
def lk:List (Int×Value)→Int→Option Value
 | [],_=> none
 |(k,v)::l,x=> if x=k then some v else lk l x
def pt:List (Int×Value)→Int→Value→List (Int×Value)
 | [],x,u=> [(x,u)]
 |(k,v)::l,x,u=> if x=k then (k,u)::l else (k,v)::pt l x u
def rm:List (Int×Value)→Int→List (Int×Value)
 | [],_=> []
 |(k,v)::l,x=> if x=k then l else (k,v)::rm l x
def IMap (w:World) (q:IntKind) (b:Nat) (l:List (Int×Value)):Prop:=
 ∃ es clock,w.heap[b]? =some (.map es clock)∧es.toList.map (fun e=> (e.key,e.val))=l.map (fun x=> (Value.int q x.1,x.2))∧
  (es.toList.map (·.born)).Nodup∧∀ e,e∈es.toList→e.born < clock
section
variable {S:Nat→Prop} {w w' :World} {q:IntKind} {b:Nat} {l:List (Int×Value)} {P:Program}
theorem IMap.lt (h:IMap w q b l):b < w.heap.size:=by obtain ⟨es,c,hb,_⟩:=h;exact lt_of_block hb
theorem IMap.mod (h:IMap w q b l) (hm:Mod S w w') (hs:¬S b):IMap w' q b l:=by
 obtain ⟨es,c,hb,r⟩:=h
 exact ⟨es,c,hm.heap hb hs,r⟩
theorem IMap.below (h:IMap w q b l) {B:Nat} (hm:Below B w w') (hb:b < B):IMap w' q b l:=by
 obtain ⟨es,c,hc,r⟩:=h
 exact ⟨es,c,(hm.block b hb).trans hc,r⟩
theorem IMap.setCell (h:IMap w q b l) (p:Addr) (v:Value):IMap (w.setCell p v) q b l:=by
 obtain ⟨es,c,hb,r⟩:=h
 refine ⟨es,c, ?_,r⟩
 simp only [World.setCell,Array.getElem?_modify,hb]
 split <;> simp
theorem IMap.alloc (h:IMap w q b l) (o:Obj):IMap (w.alloc o) q b l:=by
 obtain ⟨es,c,hb,r⟩:=h
 exact ⟨es,c,by rw [Below.heap_alloc _ _ _ (lt_of_block hb)];exact hb,r⟩
theorem IMap.drew (h:IMap w q b l):IMap w.drew q b l:=h
theorem IMap.drewN (h:IMap w q b l) (n:Nat):IMap (w.drewN n) q b l:=h
theorem IMap.setObj (h:IMap w q b l) {r:Nat} (hr:r≠b) (o:Obj):IMap { w with heap:=w.heap.setIfInBounds r o } q b l:=by
 obtain ⟨es,c,hb,rr⟩:=h
 exact ⟨es,c,by show (w.heap.setIfInBounds r o)[b]? =_;rw [Array.getElem?_setIfInBounds_ne hr];exact hb,rr⟩
theorem IMap.new (w:World) (q:IntKind):IMap (w.alloc (.map #[] 0)) q w.heap.size []:=
 ⟨#[],0,heap_alloc_new w _,by simp,by simp,by simp⟩
theorem findNow_list (es:List MapEntry) (l:List (Int×Value)) (x:Int):∀ (i:Nat),
  es.map (fun e=> (e.key,e.val))=l.map (fun y=> (Value.int q y.1,y.2))→
  ∃ r,Instr.findNow (.int q) (.int q x) es i=some r∧r.map (·.2)=lk l x∧(∀ j v,r=some (j,v)→i≤j∧j < i+es.length∧
   (es.set (j - i) { (es[j - i]?).getD default with key:= .int q x,val:=v }).map (fun e=> (e.key,e.val))=l.map (fun y=> (Value.int q y.1,y.2))):=by
 induction es generalizing l with
 |nil=>
  intro i h
  cases l with
  |nil=> exact ⟨none,rfl,rfl,by simp⟩
  |cons a l=> simp at h
 |cons e es ih=>
  intro i h
  cases l with
  |nil=> simp at h
  |cons a l=>
   simp only [List.map_cons,List.cons.injEq,Prod.mk.injEq] at h
   obtain ⟨⟨hk,hv⟩,ht⟩:=h
   simp only [Instr.findNow,hk,Instr.sameNow,if_true]
   by_cases e1:x=a.1
   ·subst e1
    simp only [beq_self_eq_true,lk,if_true]
    refine ⟨_,rfl,by simp [hv], ?_⟩
    rintro j v hj
    simp only [Option.some.injEq,Prod.mk.injEq] at hj
    obtain ⟨rfl,rfl⟩:=hj
    refine ⟨Nat.le_refl _,by simp, ?_⟩
    simp [hv,ht]
   ·have:(x==a.1)=false:=by simpa using e1
    simp only [this]
    obtain ⟨r,h1,h2,h3⟩:=ih l (i+1) ht
    refine ⟨r,h1,by simp [lk,e1,h2], ?_⟩
    rintro j v hj
    obtain ⟨g1,g2,g3⟩:=h3 j v hj
    refine ⟨by omega,by simp;omega, ?_⟩
    obtain ⟨m,rfl⟩:∃ m,j=i+1+m:=⟨j - (i+1),by omega⟩
    have e2:i+1+m - i=m+1:=by omega
    have e3:i+1+m - (i+1)=m:=by omega
    rw [e3] at g3
    rw [e2]
    simp only [List.set_cons_succ,List.map_cons,List.getElem?_cons_succ,hk,hv,g3]
theorem run_getObj_at {P:Program} {w:World} {r:Nat} {es:Array MapEntry} {clock:Nat} (hb:w.heap[r]? =some (.map es clock)):(getObj r).run P w= .ok (.map es clock) w:=by
 simp [getObj,Sem.run,hb]
theorem run_setObj_at' {P:Program} {w:World} {r:Nat} {es:Array MapEntry} {clock:Nat} (o:Obj) (hb:w.heap[r]? =some (.map es clock)):(setObj r o).run P w= .ok () { w with heap:=w.heap.setIfInBounds r o }:=by
 simp [setObj,Sem.run,hb]
theorem run_checkKeyI {k:TypeId} (hk:P.underlying k=some (.int q)) (e:Bool) (v:Value) (w:World):(Instr.checkKey e 10000 k v).run P w= .ok () w:=by
 rw [show (10000:Nat)=9999+1 from rfl]
 unfold Instr.checkKey
 simp [run_underlying hk]
theorem run_findKeyI {k:TypeId} (hk:P.underlying k=some (.int q)) {es:List MapEntry} (hes:es.map (fun e=> (e.key,e.val))=l.map (fun y=> (Value.int q y.1,y.2))) (x:Int) (w:World):
  ∃ r,(Instr.findKey k (.int q x) es).run P w= .ok r w∧r.map (·.2)=lk l x∧(∀ j v,r=some (j,v)→j < es.length∧
   (es.set j { (es[j]?).getD default with key:= .int q x,val:=v }).map (fun e=> (e.key,e.val))=l.map (fun y=> (Value.int q y.1,y.2))):=by
 obtain ⟨r,h1,h2,h3⟩:=findNow_list es l x 0 hes
 refine ⟨r, ?_,h2,fun j v hj=> by simpa using (h3 j v hj).2⟩
 simp [Instr.findKey,run_underlying hk,h1]
theorem run_lookup_ok {t k e:TypeId} {z:Value} (ht:P.underlying t=some (.map k e)) (hk:P.underlying k=some (.int q)) (hz:(zeroValue e).run P w= .ok z w) (h:IMap w q b l) (x:Int):
  (Instr.lookup t (.map (some b)) (.int q x) true).run P w= .ok (.tuple #[(lk l x).getD z, .bool (lk l x).isSome]) w:=by
 obtain ⟨es,c,hb,hes,_⟩:=h
 obtain ⟨r,h1,h2,_⟩:=run_findKeyI (P:=P) hk hes x w
 rw [←h2]
 cases r <;> simp [Instr.lookup,run_underlying ht,run_getObj_at hb,run_checkKeyI hk,h1,hz]
theorem run_lookup {t k e:TypeId} {z:Value} (ht:P.underlying t=some (.map k e)) (hk:P.underlying k=some (.int q)) (hz:(zeroValue e).run P w= .ok z w) (h:IMap w q b l) (x:Int):
  (Instr.lookup t (.map (some b)) (.int q x) false).run P w= .ok ((lk l x).getD z) w:=by
 obtain ⟨es,c,hb,hes,_⟩:=h
 obtain ⟨r,h1,h2,_⟩:=run_findKeyI (P:=P) hk hes x w
 rw [←h2]
 cases r <;> simp [Instr.lookup,run_underlying ht,run_getObj_at hb,run_checkKeyI hk,h1,hz]
end
theorem pt_absent (l:List (Int×Value)) (x:Int) (u:Value) (h:lk l x=none):pt l x u=l++ [(x,u)]:=by
 induction l with
 |nil=> rfl
 |cons a l ih=>
  simp only [lk] at h
  split at h
  ·cases h
  ·rename_i e;simp [pt,e,ih h]
section
variable {w:World} {q:IntKind} {b:Nat} {l:List (Int×Value)} {P:Program}
theorem list_pt (es:List MapEntry):∀ (l:List (Int×Value)) (x:Int) (u:Value) (j:Nat) (v:Value),es.map (fun e=> (e.key,e.val))=l.map (fun y=> (Value.int q y.1,y.2))→
  Instr.findNow (.int q) (.int q x) es 0=some (some (j,v))→
  (es.modify j (fun e=> { e with key:= .int q x,val:=u })).map (fun e=> (e.key,e.val))=(pt l x u).map (fun y=> (Value.int q y.1,y.2)):=by
 have gen:∀ (es:List MapEntry) (l:List (Int×Value)) (x:Int) (u:Value) (i j:Nat) (v:Value),es.map (fun e=> (e.key,e.val))=l.map (fun y=> (Value.int q y.1,y.2))→
   Instr.findNow (.int q) (.int q x) es i=some (some (j,v))→i≤j∧
   (es.modify (j - i) (fun e=> { e with key:= .int q x,val:=u })).map (fun e=> (e.key,e.val))=(pt l x u).map (fun y=> (Value.int q y.1,y.2)):=by
  intro es
  induction es with
  |nil=> intro l x u i j v _ h;simp [Instr.findNow] at h
  |cons e es ih=>
   intro l x u i j v hes h
   cases l with
   |nil=> simp at hes
   |cons a l=>
    simp only [List.map_cons,List.cons.injEq,Prod.mk.injEq] at hes
    obtain ⟨⟨hk,hv⟩,ht⟩:=hes
    simp only [Instr.findNow,hk,Instr.sameNow,if_true] at h
    by_cases e1:x=a.1
    ·subst e1
     simp only [beq_self_eq_true,Option.some.injEq,Prod.mk.injEq] at h
     obtain ⟨rfl,rfl⟩:=h
     simp [pt,ht]
    ·have:(x==a.1)=false:=by simpa using e1
     simp only [this] at h
     obtain ⟨g1,g2⟩:=ih l x u (i+1) j v ht h
     obtain ⟨m,rfl⟩:∃ m,j=i+1+m:=⟨j - (i+1),by omega⟩
     refine ⟨by omega, ?_⟩
     have e2:i+1+m - i=m+1:=by omega
     have e3:i+1+m - (i+1)=m:=by omega
     rw [e3] at g2
     rw [e2]
     simp [pt,e1,g2,hk,hv]
 intro l x u j v hes h
 have:=(gen es l x u 0 j v hes h).2
 simpa using this
theorem run_mapUpdate {t k e:TypeId} (ht:P.underlying t=some (.map k e)) (hk:P.underlying k=some (.int q)) (h:IMap w q b l) (x:Int) (u:Value):
  ∃ o,(Instr.mapUpdate t (.map (some b)) (.int q x) u).run P w= .ok () { w with heap:=w.heap.setIfInBounds b o }∧IMap { w with heap:=w.heap.setIfInBounds b o } q b (pt l x u):=by
 obtain ⟨es,c,hb,hes,hnd,hlt⟩:=h
 obtain ⟨r,g1,g2,g3⟩:=findNow_list es.toList l x 0 hes
 have hlb:=lt_of_block hb
 cases r with
 |none=>
  refine ⟨.map (es.push { key:= .int q x,val:=u,born:=c }) (c+1), ?_, ?_⟩
  ·simp [Instr.mapUpdate,run_underlying ht,run_getObj_at hb,run_checkKeyI hk,Instr.findKey,run_underlying hk,g1,run_setObj_at' _ hb]
  ·refine ⟨es.push { key:= .int q x,val:=u,born:=c },c+1,by simp [hlb], ?_, ?_, ?_⟩
   ·rw [pt_absent l x u (by simpa using g2.symm)]
    simp [hes]
   ·simp only [Array.toList_push,List.map_append,List.map_cons,List.map_nil]
    refine List.nodup_append.2 ⟨hnd,by simp, ?_⟩
    intro a ha b' hb'
    simp only [List.mem_singleton] at hb'
    obtain ⟨e,he,rfl⟩:=List.mem_map.1 ha
    have:=hlt e he
    omega
   ·intro e he
    simp only [Array.toList_push,List.mem_append,List.mem_singleton] at he
    rcases he with he|rfl
    ·have:=hlt e he;omega
    ·exact Nat.lt_succ_self _
 |some r=>
  obtain ⟨j,v⟩:=r
  obtain ⟨_,hj,_⟩:=g3 j v rfl
  simp only [Nat.zero_add] at hj
  have hm:=list_pt (q:=q) es.toList l x u j v hes g1
  have hkey:∃ y,(es[j]?).map (·.key)=some (.int q y)∧y=x:=by
   have:∀ (es:List MapEntry) (l:List (Int×Value)) (i j:Nat) (v:Value),es.map (fun e=> (e.key,e.val))=l.map (fun y=> (Value.int q y.1,y.2))→Instr.findNow (.int q) (.int q x) es i=some (some (j,v))→
     i≤j∧(es[j - i]?).map (·.key)=some (.int q x):=by
    intro es
    induction es with
    |nil=> intro l i j v _ h;simp [Instr.findNow] at h
    |cons e es ih=>
     intro l i j v hes h
     cases l with
     |nil=> simp at hes
     |cons a l=>
      simp only [List.map_cons,List.cons.injEq,Prod.mk.injEq] at hes
      obtain ⟨⟨hk,hv⟩,ht⟩:=hes
      simp only [Instr.findNow,hk,Instr.sameNow,if_true] at h
      by_cases e1:x=a.1
      ·subst e1
       simp only [beq_self_eq_true,Option.some.injEq,Prod.mk.injEq] at h
       obtain ⟨rfl,rfl⟩:=h
       simp [hk]
      ·have:(x==a.1)=false:=by simpa using e1
       simp only [this] at h
       obtain ⟨g1,g2⟩:=ih l (i+1) j v ht h
       obtain ⟨m,rfl⟩:∃ m,j=i+1+m:=⟨j - (i+1),by omega⟩
       refine ⟨by omega, ?_⟩
       have e2:i+1+m - i=m+1:=by omega
       have e3:i+1+m - (i+1)=m:=by omega
       rw [e3] at g2
       rw [e2]
       simpa using g2
   have:=(this es.toList l 0 j v hes g1).2
   exact ⟨x,by simpa using this,rfl⟩
  obtain ⟨y,hy,rfl⟩:=hkey
  refine ⟨.map (es.modify j fun e=> { e with key:= .int q y,val:=u }) c, ?_, ?_⟩
  ·simp [Instr.mapUpdate,run_underlying ht,run_getObj_at hb,run_checkKeyI hk,Instr.findKey,run_underlying hk,g1,run_setObj_at' _ hb,hy,Instr.keyThatStays,Instr.sameBits]
  ·refine ⟨es.modify j fun e=> { e with key:= .int q y,val:=u },c,by simp [hlb], ?_, ?_, ?_⟩
   ·simpa using hm
   ·have:(es.modify j fun e=> { e with key:= .int q y,val:=u }).toList.map (·.born)=es.toList.map (·.born):=by
     simp only [Array.toList_modify]
     apply List.ext_getElem?
     intro i
     simp only [List.getElem?_map,List.getElem?_modify]
     cases es.toList[i]? with
     |none=> rfl
     |some e=> simp only [Option.map_some];split <;> rfl
    rw [this];exact hnd
   ·intro e he
    have he' :e∈es.toList.modify j (fun e=> { e with key:= .int q y,val:=u }):=by simpa using he
    obtain ⟨i,hi,rfl⟩:=List.getElem_of_mem he'
    have hi' :i < es.toList.length:=by simpa using hi
    have h0:=hlt es.toList[i] (List.getElem_mem hi')
    rw [List.getElem_modify]
    split <;> simpa using h0
theorem IMap.size (h:IMap w q b l):∃ es c,w.heap[b]? =some (.map es c)∧es.size=l.length:=by
 obtain ⟨es,c,hb,hes,_⟩:=h
 exact ⟨es,c,hb,by simpa using congrArg List.length hes⟩
end
end Go.Q
/- Laws at operations,for walks:look-ups in maps with whole numbers as keys,stores into them;small words for rows of few cells. -/
namespace Go.Q
open Go.RowKit
def f1 (a:Value):Nat→Value:=fun _=> a
def f2 (a b:Value):Nat→Value:=fun i=> match i with|0=> a|_=> b
def f3 (a b c:Value):Nat→Value:=fun i=> match i with|0=> a|1=> b|_=> c
def f4 (a b c d:Value):Nat→Value:=fun i=> match i with|0=> a|1=> b|2=> c|_=> d
def f5 (a b c d e:Value):Nat→Value:=fun i=> match i with|0=> a|1=> b|2=> c|3=> d|_=> e
section
variable {P:Program} {w:World} {ops:Array Oper} {rest:List Oper} {o:Oper} {a:Act} {Q:Exit→Act→World→Prop} {q:IntKind} {b:Nat} {l:List (Int×Value)}
theorem wpList_lookup_hit (hg:o.guard=none) (m x:Operand) (t:TypeId) (hop:o.op=Op.lookup t m x true) (k e:TypeId) (z v:Value) (ht:P.underlying t=some (.map k e)) (hk:P.underlying k=some (.int q))
  (hz:(zeroValue e).run P w= .ok z w) (h:IMap w q b l) (i:Int) (hm:a.eval m= .map (some b)) (hx:a.eval x= .int q i) (hv:lk l i=some v)
  (hK:wpList P ops Q rest (a.put o.dst (.tuple #[v, .bool true])) w):wpList P ops Q (o::rest) a w:=by
 refine wpList_plain hg fun K' hK' => ?_
 have hrun:=run_lookup_ok (P:=P) ht hk hz h i
 simp only [hv] at hrun
 unfold Oper.wp
 simp [execOp,hop,hm,hx,hrun,Result.andThen]
 exact hK' _ _ hK
theorem wpList_lookup_miss (hg:o.guard=none) (m x:Operand) (t:TypeId) (hop:o.op=Op.lookup t m x true) (k e:TypeId) (z:Value) (ht:P.underlying t=some (.map k e)) (hk:P.underlying k=some (.int q))
  (hz:(zeroValue e).run P w= .ok z w) (h:IMap w q b l) (i:Int) (hm:a.eval m= .map (some b)) (hx:a.eval x= .int q i) (hv:lk l i=none)
  (hK:wpList P ops Q rest (a.put o.dst (.tuple #[z, .bool false])) w):wpList P ops Q (o::rest) a w:=by
 refine wpList_plain hg fun K' hK' => ?_
 have hrun:=run_lookup_ok (P:=P) ht hk hz h i
 simp only [hv] at hrun
 unfold Oper.wp
 simp [execOp,hop,hm,hx,hrun,Result.andThen]
 exact hK' _ _ hK
end
structure Put (w w1:World) (b:Nat):Prop where
 mod:Mod (One b) w w1
 size:w1.heap.size=w.heap.size
 tape:w1.drawn=w.drawn
theorem Put.cell {w w1:World} {b:Nat} (h:Put w w1 b) {x:Addr} (hx:x.block≠b):w1.cell? x=w.cell? x:=by
 by_cases hl:x.block < w.heap.size
 ·exact World.cell?_of_block (h.mod.keep _ hl hx)
 ·simp [World.cell?,Array.getElem?_eq_none (show w.heap.size≤x.block by omega),Array.getElem?_eq_none (show w1.heap.size≤x.block by rw [h.size];omega)]
theorem Put.frozen {w w1:World} {b:Nat} (h:Put w w1 b) {x:Addr} (hx:x.block≠b):w1.frozen? x=w.frozen? x:=by
 by_cases hl:x.block < w.heap.size
 ·exact World.frozen?_of_block (h.mod.keep _ hl hx)
 ·simp [World.frozen?,Array.getElem?_eq_none (show w.heap.size≤x.block by omega),Array.getElem?_eq_none (show w1.heap.size≤x.block by rw [h.size];omega)]
theorem put_setObj (w:World) (b:Nat) (o:Obj):Put w { w with heap:=w.heap.setIfInBounds b o } b:=
 ⟨(Mod.refl (One b) w).setObj (r:=b) (.inr rfl) o,by simp,rfl⟩
section
variable {P:Program} {w:World} {ops:Array Oper} {rest:List Oper} {o:Oper} {a:Act} {K:Act→World→Prop} {Q:Exit→Act→World→Prop} {q:IntKind} {b:Nat} {l:List (Int×Value)}
theorem wp_mapUpdate (m x u:Operand) (t:TypeId) (hop:o.op=Op.mapUpdate t m x u) (k e:TypeId) (ht:P.underlying t=some (.map k e)) (hk:P.underlying k=some (.int q))
  (h:IMap w q b l) (i:Int) (v:Value) (hm:a.eval m= .map (some b)) (hx:a.eval x= .int q i) (hv:a.eval u=v)
  (hK:∀ w1,Put w w1 b→IMap w1 q b (pt l i v)→K (a.put o.dst undef) w1):o.wp P a w K Q:=by
 obtain ⟨o',hrun,hmap⟩:=run_mapUpdate (P:=P) ht hk h i v
 unfold Oper.wp
 simp [execOp,hop,hm,hx,hv,hrun,Result.andThen]
 exact hK _ (put_setObj w b o') hmap
theorem wpList_mapUpdate (hg:o.guard=none) (m x u:Operand) (t:TypeId) (hop:o.op=Op.mapUpdate t m x u) (k e:TypeId) (ht:P.underlying t=some (.map k e)) (hk:P.underlying k=some (.int q))
  (h:IMap w q b l) (i:Int) (v:Value) (hm:a.eval m= .map (some b)) (hx:a.eval x= .int q i) (hv:a.eval u=v)
  (hK:∀ w1,Put w w1 b→IMap w1 q b (pt l i v)→wpList P ops Q rest (a.put o.dst undef) w1):wpList P ops Q (o::rest) a w:=
 wpList_plain hg fun _ hK' => wp_mapUpdate m x u t hop k e ht hk h i v hm hx hv fun w1 h1 h2=> hK' _ _ (hK w1 h1 h2)
end
theorem wp_region_tail {P:Program} {id:Nat} {Q:Exit→Act→World→Prop} {a:Act} {w:World} {l:List Oper} (n:Nat) (hm:P.follows .mixedOrders=true) (hB:Region.lexTailB .any l.toArray n=true)
  (h:wpStill P l.toArray w.drew (fun a' => wpList P l.toArray Q (l.drop n) a' w.drew) (l.take n) a):(Code.region id l.toArray true).wp P Q a w:=
 wp_region_still_tail n hm hB h
theorem own_row {w:World} {base:Nat} {e:TypeId} {size g cap n:Nat} {xs:List Value} (h:w.ownsRow base e size (.slice (some ⟨g,0,none⟩) n cap) n xs):Row w g (n * size) (fun i=> xs.getD i undef):=by
 obtain ⟨h1,h2|⟨g',cap',cur,hv,_,hg,hn,_,hs,ht⟩⟩:=h
 ·simp at h2
 ·simp only [Value.slice.injEq,Option.some.injEq,Addr.mk.injEq,and_true,true_and] at hv
  obtain ⟨rfl,rfl⟩:=hv
  refine ⟨cur,e,hg,by rw [hs];exact Nat.mul_le_mul_right _ hn,fun i hi=> ?_⟩
  have:xs[i]? =cur[i]? :=by
   rw [←ht,List.getElem?_take,if_pos hi]
   simp
  rw [←this]
  show xs[i]? =some (xs.getD i undef)
  rw [List.getD_eq_getElem?_getD,List.getElem?_eq_getElem (by omega)]
  rfl
theorem own_cap {w:World} {base:Nat} {e:TypeId} {size g cap n:Nat} {xs:List Value} (h:w.ownsRow base e size (.slice (some ⟨g,0,none⟩) n cap) n xs):n≤cap:=by
 obtain ⟨h1,h2|⟨g',cap',cur,hv,_,hg,hn,_,hs,ht⟩⟩:=h
 ·simp at h2
 ·simp only [Value.slice.injEq,Option.some.injEq,Addr.mk.injEq,and_true,true_and] at hv
  obtain ⟨rfl,rfl⟩:=hv
  exact hn
section
variable {P:Program} {W:World} {ops:Array Oper} {rest:List Oper} {o:Oper} {a:Act} {Q:Exit→Act→World→Prop}
theorem wpList_app_nil (hgd:o.guard=none) (s x:Operand) (t:TypeId) (ho:o.op= .call { callee:= .builtin .append,args:= #[s,x],argTypes:= #[t,t] })
  (e:TypeId) (i:TypeInfo) (z:Value) (size bytes:Nat) (ht:P.underlying t=some (.slice e)) (hi:P.info? e=some i) (hz:i.zero=some z) (hsize:i.size=size) (hby:i.bytes=bytes) (hzs:z.cells.size=size) (hsz:0 < size) (hbb:bytes≤1000)
  (cs:List Value) (t' :TypeId) (hl:cs.length=size) (h1:∀ u∈cs,u.oneCell' =true) (hs:a.eval s= .slice none 0 0) (hx:a.eval x= .slice (some ⟨W.heap.size,0,none⟩) 1 1)
  (h:∀ g cap w1,W.heap.size < g→g < w1.heap.size→1≤cap→w1.ownsRow W.heap.size e size (.slice (some ⟨g,0,none⟩) 1 cap) 1 cs→Mod No W w1→
   (∀ b o,b < W.heap.size→w1.cell? ⟨b,o,none⟩=W.cell? ⟨b,o,none⟩)→(∀ b o,b < W.heap.size→w1.frozen? ⟨b,o,none⟩=W.frozen? ⟨b,o,none⟩)→
   wpList P ops Q rest (a.put o.dst (.slice (some ⟨g,0,none⟩) 1 cap)) w1):wpList P ops Q (o::rest) a (W.alloc (.cells cs.toArray t')):=by
 refine wpList_append_lies _ hgd s x t ho W.heap.size e i z size bytes ht hi hz hsize hby hzs hsz _ 0 [] hs (World.ownsRow_nil _ W.heap.size e size) ⟨W.heap.size,0,none⟩ 1 1 cs hx (by omega) (news_new W cs _) h1 (by omega) (by simp [maxLen]) (by omega) (by simp) _ rfl ?_
 intro g cap w1 hown hgrow hat hlt
 simp only [Value.ownBlock,World.size_alloc,reduceCtorEq,false_or] at hgrow hat
 have hb:∀ b,b < W.heap.size→w1.heap[b]? =W.heap[b]? :=fun b hb=> (hgrow.block b (by simp;omega) (by simp)).trans (Below.heap_alloc _ _ _ hb)
 have hgs:=hgrow.size
 simp only [World.size_alloc] at hgs
 refine h g cap w1 (by omega) hlt (own_cap hown) (by simpa using hown) ⟨hgrow.os,hgrow.tape,hgrow.output,by omega,fun b hb' _=> hb b hb'⟩ ?_ ?_
 ·exact fun b o hb' => World.cell?_of_block (hb b hb')
 ·exact fun b o hb' => World.frozen?_of_block (hb b hb')
end
theorem Row.c2 {w:World} {b:Nat} {x0 x1:Value} (h:Row w b 2 (f2 x0 x1)):w.cell? ⟨b,0,none⟩=some x0∧w.cell? ⟨b,1,none⟩=some x1:=⟨h.cell (i:=0) (by omega),h.cell (i:=1) (by omega)⟩
theorem Row.c3 {w:World} {b:Nat} {x0 x1 x2:Value} (h:Row w b 3 (f3 x0 x1 x2)):w.cell? ⟨b,0,none⟩=some x0∧w.cell? ⟨b,1,none⟩=some x1∧w.cell? ⟨b,2,none⟩=some x2:=⟨h.cell (i:=0) (by omega),h.cell (i:=1) (by omega),h.cell (i:=2) (by omega)⟩
theorem Row.c5 {w:World} {b:Nat} {x0 x1 x2 x3 x4:Value} (h:Row w b 5 (f5 x0 x1 x2 x3 x4)):w.cell? ⟨b,0,none⟩=some x0∧w.cell? ⟨b,1,none⟩=some x1∧w.cell? ⟨b,2,none⟩=some x2∧w.cell? ⟨b,3,none⟩=some x3∧w.cell? ⟨b,4,none⟩=some x4:=
 ⟨h.cell (i:=0) (by omega),h.cell (i:=1) (by omega),h.cell (i:=2) (by omega),h.cell (i:=3) (by omega),h.cell (i:=4) (by omega)⟩
theorem row_new1 (w:World) (x0:Value) (t:TypeId):Row (w.alloc (.cells #[x0] t)) w.heap.size 1 (f1 x0):=Row.new w _ t (by simp) (fun i hi=> by
 obtain rfl:i=0:=(by omega)
 rfl)
theorem row_new2 (w:World) (x0 x1:Value) (t:TypeId):Row (w.alloc (.cells #[x0,x1] t)) w.heap.size 2 (f2 x0 x1):=Row.new w _ t (by simp) (fun i hi=> by
 obtain rfl|rfl:i=0∨i=1:=(by omega)
 ·rfl
 ·rfl)
theorem row_new3 (w:World) (x0 x1 x2:Value) (t:TypeId):Row (w.alloc (.cells #[x0,x1,x2] t)) w.heap.size 3 (f3 x0 x1 x2):=Row.new w _ t (by simp) (fun i hi=> by
 obtain rfl|rfl|rfl:i=0∨i=1∨i=2:=(by omega)
 ·rfl
 ·rfl
 ·rfl)
theorem row_new5 (w:World) (x0 x1 x2 x3 x4:Value) (t:TypeId):Row (w.alloc (.cells #[x0,x1,x2,x3,x4] t)) w.heap.size 5 (f5 x0 x1 x2 x3 x4):=Row.new w _ t (by simp) (fun i hi=> by
 obtain rfl|rfl|rfl|rfl|rfl:i=0∨i=1∨i=2∨i=3∨i=4:=(by omega)
 all_goals rfl)
theorem Row.set5 {w:World} {b:Nat} {x0 x1 x2 x3 x4:Value} (h:Row w b 5 (f5 x0 x1 x2 x3 x4)) (v:Value):
  Row (w.setCell ⟨b,3,none⟩ v) b 5 (f5 x0 x1 x2 v x4)∧Row (w.setCell ⟨b,4,none⟩ v) b 5 (f5 x0 x1 x2 x3 v):=by
 refine ⟨(h.set (i:=3) (by omega) v).congr (fun i hi=> ?_),(h.set (i:=4) (by omega) v).congr (fun i hi=> ?_)⟩
 all_goals
  obtain rfl|rfl|rfl|rfl|rfl:i=0∨i=1∨i=2∨i=3∨i=4:=(by omega)
  all_goals rfl
theorem wp_world {P:Program} {c:Code} {Q:Exit→Act→World→Prop} {a:Act} {w:World} (I:World→Prop) (h:I w) (k:∀ w',I w' →c.wp P Q a w'):c.wp P Q a w:=k w h
theorem wpList_world {P:Program} {ops:Array Oper} {l:List Oper} {Q:Exit→Act→World→Prop} {a:Act} {w:World} (I:World→Prop) (h:I w) (k:∀ w',I w' →wpList P ops Q l a w'):wpList P ops Q l a w:=k w h
end Go.Q
namespace Go.Q
open Go.RowKit Go.Proofs
theorem weighs_yes (n:Int) (h1:1≤n) (h2:n≤65536) (w:World):Calls Tryz.prog 217 #[.int .i64 n] w fun e w' => e= .returned (.bool true)∧w=w' :=by
 go_enter Tryz.func217,Tryz.ntmps217
 go_wp2
 go_ret
 exact ⟨by simp,rfl⟩
theorem ticked_yes (n:Int) (h1:0≤n) (h2:n≤4294967295) (w:World):Calls Tryz.prog 215 #[.int .i64 n] w fun e w' => e= .returned (.bool true)∧w=w' :=by
 go_enter Tryz.func215,Tryz.ntmps215
 go_wp2
 go_ret
 exact ⟨by simp,rfl⟩
structure REnt (v r w:Int):Prop where
 w1:1≤w
 w2:w≤65536
 r1:0≤r
 r2:r < w
 v1:0≤v
 v2:v < 18446744073709551615
theorem right_yes (v r k:Int) (h:REnt v r k) (w:World):Calls Tryz.prog 211 #[.agg #[.int .u64 v, .int .u32 r, .int .u32 k]] w fun e w' => e= .returned (.bool true)∧w' =w.alloc (.cells #[.int .u64 v, .int .u32 r, .int .u32 k] 138):=by
 obtain ⟨h1,h2,h3,h4,h5,h6⟩:=h
 go_enter Tryz.func211,Tryz.ntmps211
 go_wp2_with (first|(go_at_call 217;refine (weighs_yes _ (by omega) (by omega) _).mono ?_;rintro e w' ⟨rfl,rfl⟩))
 go_ret
 exact ⟨by simp,rfl⟩
def mxI (a b:Int):Int:=if a < b then b else a
theorem mxI_lt {a b:Int} (h:a < b):mxI a b=b:=if_pos h
theorem mxI_ge {a b:Int} (h:b≤a):mxI a b=a:=if_neg (by omega)
theorem bcell {W w1:World} (hb:Below W.heap.size W w1):(∀ b o,b < W.heap.size→w1.cell? ⟨b,o,none⟩=W.cell? ⟨b,o,none⟩)∧(∀ b o,b < W.heap.size→w1.frozen? ⟨b,o,none⟩=W.frozen? ⟨b,o,none⟩):=
 ⟨fun b o h=> hb.cell (p:=⟨b,o,none⟩) h,fun b o h=> hb.frozen (p:=⟨b,o,none⟩) h⟩
theorem less_zero (a b:Int) (ha:0≤a) (hb:a≤b) (w:World):Calls Tryz.prog 214 #[.int .u64 a, .int .u64 b] w fun e w' => e= .returned (.int .u64 0)∧w=w' :=by
 go_enter Tryz.func214,Tryz.ntmps214
 go_wp2
 all_goals (go_ret;first|exact ⟨by simp [IntKind.wrap],rfl⟩|exact ⟨by rw [show a - b=0 from by omega];simp [IntKind.wrap],rfl⟩)
theorem addE (v r k n:Int) (h:REnt v r k) (h1:0≤n) (h2:n≤1000000) (h3:v≤1000000000000000) (w:World):
  Calls Tryz.prog 216 #[.agg #[.int .u64 v, .int .u32 r, .int .u32 k], .int .i64 n] w fun e w' => e= .returned (.agg #[.int .u64 (v+(n * 1048576+r) / k), .int .u32 ((n * 1048576+r) % k), .int .u32 k])∧Below w.heap.size w w' :=by
 obtain ⟨g1,g2,g3,g4,g5,g6⟩:=h
 have a1:0≤(n * 1048576+r) / k:=Int.ediv_nonneg (by omega) (by omega)
 have a2:(n * 1048576+r) / k≤n * 1048576+r:=Int.ediv_le_self _ (by omega)
 have a3:0≤(n * 1048576+r) % k:=Int.emod_nonneg _ (by omega)
 have a4:(n * 1048576+r) % k < k:=Int.emod_lt_of_pos _ (by omega)
 go_enter Tryz.func216,Tryz.ntmps216
 go_wp2
 go_quiet (fail)
 go_wp2
 exact bodyPost_ret (v:= .agg #[.int .u64 (v+(n * 1048576+r) / k), .int .u32 ((n * 1048576+r) % k), .int .u32 k]) (by simp [results,Tryz.results216,go_sem]) rfl ⟨rfl,belowX⟩
theorem Add_ok (v r k n:Int) (h:REnt v r k) (h1:0≤n) (h2:n≤1000000) (h3:v≤1000000000000000) (w:World):
  Calls Tryz.prog 155 #[.agg #[.int .u64 v, .int .u32 r, .int .u32 k], .int .i64 n] w fun e w' => e= .returned (.tuple #[.agg #[.int .u64 (v+(n * 1048576+r) / k), .int .u32 ((n * 1048576+r) % k), .int .u32 k], .int .i64 0])∧Below w.heap.size w w' :=by
 go_enter Tryz.func155,Tryz.ntmps155
 go_wp2_with fail
 refine (right_yes _ _ _ h _).mono ?_;rintro e w' ⟨rfl,rfl⟩
 go_wp2_with fail
 refine (ticked_yes _ h1 (by omega) _).mono ?_;rintro e w' ⟨rfl,rfl⟩
 go_wp2_with fail
 refine (addE _ _ _ _ h h1 h2 h3 _).mono ?_;rintro e w' ⟨rfl,hb⟩
 obtain ⟨hc,hf⟩:=bcell hb
 have hz:=hb.size
 simp only [World.size_alloc] at hc hf hz
 go_wp2
 exact bodyPost_ret (v:= .tuple #[.agg #[.int .u64 (v+(n * 1048576+r) / k), .int .u32 ((n * 1048576+r) % k), .int .u32 k], .int .i64 0]) (by simp [results,Tryz.results155,go_sem,hc]) rfl ⟨rfl,belowX⟩
theorem placeNew_ok (k:Int) (h1:1≤k) (h2:k≤65536) (w:World):
  Calls Tryz.prog 146 #[.int .u64 0, .int .i64 k] w fun e w' => e= .returned (.tuple #[.agg #[.int .u64 0, .int .u32 0, .int .u32 k], .int .i64 0])∧Below w.heap.size w w' :=by
 have hh:REnt 0 0 k:=⟨by omega,by omega,by omega,by omega,by omega,by omega⟩
 go_enter Tryz.func146,Tryz.ntmps146
 go_wp2_with fail
 refine (right_yes _ _ _ hh _).mono ?_;rintro e w' ⟨rfl,rfl⟩
 go_wp2
 exact bodyPost_ret (v:= .tuple #[.agg #[.int .u64 0, .int .u32 0, .int .u32 k], .int .i64 0]) (by simp [results,Tryz.results146,go_sem]) rfl ⟨rfl,belowX⟩
theorem woken_same (v r k fl cr:Int) (h:REnt v r k) (h0:0≤fl) (h1:fl≤cr) (w:World):
  Calls Tryz.prog 152 #[.agg #[.int .u64 v, .int .u32 r, .int .u32 k], .int .u64 fl, .int .u64 cr] w fun e w' => e= .returned (.tuple #[.agg #[.int .u64 v, .int .u32 r, .int .u32 k], .int .i64 0])∧Below w.heap.size w w' :=by
 have hv:=h.v1
 go_enter Tryz.func152,Tryz.ntmps152
 go_wp2_with fail
 refine (right_yes _ _ _ h _).mono ?_;rintro e w' ⟨rfl,rfl⟩
 go_wp2_with fail
 refine (less_zero _ _ h0 h1 _).mono ?_;rintro e w' ⟨rfl,rfl⟩
 go_wp2
 exact bodyPost_ret (v:= .tuple #[.agg #[.int .u64 v, .int .u32 r, .int .u32 k], .int .i64 0]) (by simp [results,Tryz.results152,go_sem]) rfl ⟨rfl,belowX⟩
end Go.Q
namespace Go.Q
open Go.RowKit Go.Proofs
theorem isNaNu_any (n:Int) (w:World):Calls Tryz.prog 281 #[.int .u64 n] w fun e w' => e= .returned (.bool false)∧w=w' :=by
 go_enter Tryz.func281,Tryz.ntmps281
 go_wp2
 go_ret
 exact ⟨by simp,rfl⟩
theorem isNaNi_any (n:Int) (w:World):Calls Tryz.prog 259 #[.int .i64 n] w fun e w' => e= .returned (.bool false)∧w=w' :=by
 go_enter Tryz.func259,Tryz.ntmps259
 go_wp2
 go_ret
 exact ⟨by simp,rfl⟩
def cmpI (a b:Int):Int:=if a < b then -1 else if b < a then 1 else 0
theorem cmpI_lt {a b:Int} (h:a < b):cmpI a b= -1:=by unfold cmpI;rw [if_pos h]
theorem cmpI_gt {a b:Int} (h:b < a):cmpI a b=1:=by unfold cmpI;rw [if_neg (by omega),if_pos h]
theorem cmpI_eq {a b:Int} (h:b≤a) (h' :a≤b):cmpI a b=0:=by unfold cmpI;rw [if_neg (by omega),if_neg (by omega)]
theorem compareu_any (a b:Int) (w:World):Calls Tryz.prog 248 #[.int .u64 a, .int .u64 b] w fun e w' => e= .returned (.int .i64 (cmpI a b))∧w=w' :=by
 go_enter Tryz.func248,Tryz.ntmps248
 go_wp2_with (first|(go_at_call 281;refine (isNaNu_any _ _).mono ?_;rintro e w' ⟨rfl,rfl⟩))
 all_goals go_ret
 ·exact ⟨by rw [cmpI_lt (by assumption)];rfl,rfl⟩
 ·exact ⟨by rw [cmpI_gt (by assumption)];rfl,rfl⟩
 ·exact ⟨by rw [cmpI_eq (by assumption) (by assumption)];rfl,rfl⟩
theorem comparei_any (a b:Int) (w:World):Calls Tryz.prog 210 #[.int .i64 a, .int .i64 b] w fun e w' => e= .returned (.int .i64 (cmpI a b))∧w=w' :=by
 go_enter Tryz.func210,Tryz.ntmps210
 go_wp2_with (first|(go_at_call 259;refine (isNaNi_any _ _).mono ?_;rintro e w' ⟨rfl,rfl⟩))
 all_goals go_ret
 ·exact ⟨by rw [cmpI_lt (by assumption)];rfl,rfl⟩
 ·exact ⟨by rw [cmpI_gt (by assumption)];rfl,rfl⟩
 ·exact ⟨by rw [cmpI_eq (by assumption) (by assumption)];rfl,rfl⟩
/-! ### The heap,of at most one item -/
theorem heapSome_yes (h:Nat) (n:Int) (hn:0 < n) (w:World) (c:w.cell? ⟨h,2,none⟩=some (.int .i64 n)):Calls Tryz.prog 319 #[.pointer (some ⟨h,0,none⟩)] w fun e w' => e= .returned (.bool true)∧w=w' :=by
 go_enter Tryz.func319,Tryz.ntmps319
 go_wp2
 go_ret
 exact ⟨by simp,rfl⟩
theorem heapHas_yes (h:Nat) (n id:Int) (hn:0 < n) (h0:0≤id) (h1:id < n) (w:World) (c:w.cell? ⟨h,2,none⟩=some (.int .i64 n)):Calls Tryz.prog 320 #[.pointer (some ⟨h,0,none⟩), .int .i64 id] w fun e w' => e= .returned (.bool true)∧w=w' :=by
 go_enter Tryz.func320,Tryz.ntmps320
 go_wp2_with fail
 refine (heapSome_yes h n hn _ c).mono ?_;rintro e w' ⟨rfl,rfl⟩
 go_wp2
 go_ret
 exact ⟨by simp,rfl⟩
theorem heapFind_miss (h pb:Nat) (n id:Int) (v:Value) (pl:List (Int×Value)) (hn:0 < n) (h0:0≤id) (h1:id < n) (w:World)
  (hr:Row w h 3 (f3 v (.map (some pb)) (.int .i64 n))) (hp:IMap w .i64 pb pl) (hl:lk pl id=none):
  Calls Tryz.prog 307 #[.pointer (some ⟨h,0,none⟩), .int .i64 id] w fun e w' => e= .returned (.tuple #[.int .i64 0, .int .i64 6])∧w=w' :=by
 have c1:=hr.cell (i:=1) (by omega)
 have c2:=hr.cell (i:=2) (by omega)
 simp only [f3] at c1 c2
 have H:=Lib.hid hl;clear hl
 go_enter Tryz.func307,Tryz.ntmps307
 go_wp2_with fail
 refine (heapSome_yes h n hn _ c2).mono ?_;rintro e w' ⟨rfl,rfl⟩
 go_wp2_with fail
 refine (heapHas_yes h n id hn h0 h1 _ c2).mono ?_;rintro e w' ⟨rfl,rfl⟩
 go_wp2_with (at_lookup;refine wpList_lookup_miss rfl _ _ _ rfl _ _ (.int .i64 0) Tryz.underlying325 Tryz.underlying3 (q:= .i64) (Tryz.zeroValue3 _) hp id rfl rfl H.out ?_)
 go_ret2
 exact ⟨rfl,rfl⟩
theorem heapFind_hit (h pb:Nat) (n id:Int) (v:Value) (pl:List (Int×Value)) (at_:Int) (hn:0 < n) (h0:0≤id) (h1:id < n) (w:World)
  (hr:Row w h 3 (f3 v (.map (some pb)) (.int .i64 n))) (hp:IMap w .i64 pb pl) (hl:lk pl id=some (.int .i64 at_)):
  Calls Tryz.prog 307 #[.pointer (some ⟨h,0,none⟩), .int .i64 id] w fun e w' => e= .returned (.tuple #[.int .i64 at_, .int .i64 0])∧w=w' :=by
 have c1:=hr.cell (i:=1) (by omega)
 have c2:=hr.cell (i:=2) (by omega)
 simp only [f3] at c1 c2
 have H:=Lib.hid hl;clear hl
 go_enter Tryz.func307,Tryz.ntmps307
 go_wp2_with fail
 refine (heapSome_yes h n hn _ c2).mono ?_;rintro e w' ⟨rfl,rfl⟩
 go_wp2_with fail
 refine (heapHas_yes h n id hn h0 h1 _ c2).mono ?_;rintro e w' ⟨rfl,rfl⟩
 go_wp2_with (at_lookup;refine wpList_lookup_hit rfl _ _ _ rfl _ _ (.int .i64 0) _ Tryz.underlying325 Tryz.underlying3 (q:= .i64) (Tryz.zeroValue3 _) hp id rfl rfl H.out ?_)
 go_ret2
 exact ⟨rfl,rfl⟩
end Go.Q
