/- TopGreat answers true, and leaves its arguments as they were, for every CPU number, group number, weight and shape; taking that the package-level variable crc.halves starts as the program lays it (tied to the text by the card). -/
import Derived.Test.YtckddephdbhagaaGreatDoorCards
import Derived.Test.YtckddephdbhagaaGreatDoorTie
import Derived.ProofKit
import Derived.OpenShut
import Derived.Deep.DeepHandedRow
import Derived.Lib.LaidTab
import Derived.Test.YtckddephdbhagaaGreatDoorQ38
import Derived.Test.YtckddephdbhagaaGreatDoorQ40
set_option linter.unusedVariables false
set_option linter.unusedSimpArgs false
set_option linter.unnecessarySimpa false
namespace Go.Proofs.YtckddephdbhagaaGreatDoor
open Go.ChangeShapes Go.WideShapes Go.ChangeAt Go.RowKit Go.Q
theorem tgOwn:ownKnob Tryz.prog.godebug=none:=by kernel_rfl
theorem tgHalves:Tryz.prog.globalNamed "quantum/crc.halves" =some 1:=by kernel_rfl
theorem tgType:(Tryz.prog.globals[1]?).map (·.type)=some 405:=by kernel_rfl
theorem tgCells:Tryz.prog.cellsOf 405=16:=by kernel_rfl
theorem tgCells1:Tryz.prog.cellsOf 22=1:=by kernel_rfl
def tgL:List Int:= [0,498536548,997073096,651767980,1994146192,1802195444,1303535960,1342533948,3988292384,4027552580,3604390888,3412177804,2607071920,2262029012,2685067896,3183342108]
theorem tgTab {W:World} (h:laidMetH Tryz.prog Rows.topGreatRow.laid W):Lib.TabIs Tryz.prog W "quantum/crc.halves" .u32 tgL:=
 Lib.tabIs_of_head (rest:= []) tgHalves tgType Tryz.underlying405 Tryz.underlying22 tgCells1 tgCells h
def tgH (i:Nat):Nat:=(tgL.getD i 0).toNat
theorem tgH_lt (i:Nat) (hi:i < 16):tgH i < 4294967296:=by
 rcases (by omega:i=0∨i=1∨i=2∨i=3∨i=4∨i=5∨i=6∨i=7∨i=8∨i=9∨i=10∨i=11∨i=12∨i=13∨i=14∨i=15) with rfl|rfl|rfl|rfl|rfl|rfl|rfl|rfl|rfl|rfl|rfl|rfl|rfl|rfl|rfl|rfl <;> decide
theorem keptBut_of_mod {w w' :World} (h:Mod No w w') (S:MemPlace→Prop):w.keptBut w' S:=by
 refine ⟨h.os,h.output,fun i hi=> ?_⟩
 have e:=h.keep i hi (fun x=> x)
 rw [e]
 obtain ⟨o,ho⟩:∃ o,w.heap[i]? =some o:=⟨w.heap[i],by simp [hi]⟩
 rw [ho]
 cases o with
 |cells c t fr=> exact ⟨rfl,rfl,rfl,fun _ _=> rfl⟩
 |map es clock=> exact .inr ⟨rfl,rfl⟩
 |_=> rfl
theorem tgRow {W:World} (h:laidMetH Tryz.prog Rows.topGreatRow.laid W):Row W 1 16 (fun i=> .int .u32 (tgH i:Nat)):=by
 have t:=tgTab h
 have h' :laidMet Tryz.prog Rows.topGreatRow.laid W:=h
 obtain ⟨ps,⟨g',t',cs,fuel,p,q,hg',_,hvar,_,_,rfl⟩,_,hz⟩:=h'
 obtain rfl:=Option.some.inj (tgHalves.symm.trans hg')
 have e:cs=(tgL.map fun z=> Value.int .u32 z).toArray:=Option.some.inj (hvar.symm.trans t)
 subst e
 obtain ⟨⟨c,ty,hc⟩,_⟩:=hz 1 0 (by simp [MemPlace.row,tgL])
 have hv:c=(tgL.map fun z=> Value.int .u32 z).toArray:=by
  have t2:=hvar
  unfold World.var? at t2
  rw [tgHalves] at t2
  simp only [Option.bind_some,hc,Option.some.injEq] at t2
  exact t2
 subst hv
 refine ⟨_,ty,hc,by simp [tgL],fun i hi=> ?_⟩
 rcases (by omega:i=0∨i=1∨i=2∨i=3∨i=4∨i=5∨i=6∨i=7∨i=8∨i=9∨i=10∨i=11∨i=12∨i=13∨i=14∨i=15) with rfl|rfl|rfl|rfl|rfl|rfl|rfl|rfl|rfl|rfl|rfl|rfl|rfl|rfl|rfl|rfl <;> rfl
theorem tgU8 {n:Int} (h:(Lit.int .u8 n).wf=true):∃ m:Nat,n=m∧m < 256:=by
 simp only [Lit.wf,Bool.and_eq_true,decide_eq_true_eq] at h
 have h1:IntKind.u8.min=0:=by decide
 have h2:IntKind.u8.max=255:=by decide
 rw [h1,h2] at h
 exact ⟨n.toNat,by omega,by omega⟩
set_option maxRecDepth 100000 in
theorem tgContract (H:Type) (enc:TypeId×Value→H) (W:World) (base:Nat) (args:Array Value) (ds gs:List (DataW H)) (before:List MemPlace)
  (hval:∀ (j:Nat) t v,Tryz.f4.params[j]? =some t→args[j]? =some v→Value.okWide Tryz.prog W .any base t v)
  (hW:DataW.Whole enc Tryz.prog Tryz.f4.params.toList Rows.topGreatSpec.vars false W args.toList ds gs before) (hL:laidMetH Tryz.prog Rows.topGreatRow.laid W):
  Calls Tryz.prog 4 args W fun e W' => ∃ v,e= .returned v∧Rows.topGreatSpec.post enc Tryz.prog Tryz.f4 false true false false W args v W' :=by
 have hW' :=hW
 obtain ⟨p,q,hA0,hV,rfl,hfz,hnd⟩:=hW
 have hA:DataW.TrodAll enc Tryz.prog W 0 (fun _=> true) true Tryz.f4.params.toList args.toList ds p:=hA0
 rw [Tryz.params4] at hA hval
 obtain ⟨v0,vs0,d0,ds0,p0,q0,hargs,rfl,rfl,h0,r0⟩:=trodAll_cons hA
 obtain ⟨v1,vs1,d1,ds1,p1,q1,rfl,rfl,rfl,h1,r1⟩:=trodAll_cons r0
 obtain ⟨v2,vs2,d2,ds2,p2,q2,rfl,rfl,rfl,h2,r2⟩:=trodAll_cons r1
 obtain ⟨v3,vs3,d3,ds3,p3,q3,rfl,rfl,rfl,h3,r3⟩:=trodAll_cons r2
 obtain ⟨rfl,rfl,rfl⟩:=trodAll_nil r3
 obtain rfl:args= #[v0,v1,v2,v3]:=by cases args;simp_all
 obtain ⟨rfl,rfl⟩:=trodVars_none hV
 obtain ⟨n0,rfl,rfl,rfl,w0⟩:=open_int Tryz.underlying5 (hval 0 5 v0 rfl rfl) h0
 obtain ⟨n1,rfl,rfl,rfl,w1⟩:=open_int Tryz.underlying5 (hval 1 5 v1 rfl rfl) h1
 obtain ⟨n2,rfl,rfl,rfl,w2⟩:=open_int Tryz.underlying5 (hval 2 5 v2 rfl rfl) h2
 obtain ⟨deep,rfl,rfl,rfl⟩:=open_bool Tryz.underlying4 (hval 3 4 v3 rfl rfl) h3
 clear hA0 hval
 simp only [List.append_nil] at hW'
 obtain ⟨cpu,rfl,hc⟩:=tgU8 w0
 obtain ⟨g0,rfl,hg⟩:=tgU8 w1
 obtain ⟨wn,rfl,hw⟩:=tgU8 w2
 refine (top_ok tgH tgH_lt cpu g0 wn deep hc hg hw W (tgRow hL)).mono fun e W' ⟨he,hm⟩=> ?_
 subst he
 refine ⟨_,rfl,_,_,_, [], [], [],hW', ?_, ?_, ?_,keptBut_of_mod hm _,fun h=> by cases h⟩
 ·exact trodAll_mk1 (shut_bool Tryz.underlying4 true)
 ·exact trodAll_cons_mk (shut_int Tryz.underlying5 w0) (trodAll_cons_mk (shut_int Tryz.underlying5 w1) (trodAll_cons_mk (shut_int Tryz.underlying5 w2) (trodAll_cons_mk (shut_bool Tryz.underlying4 deep) trodAll_mk0)))
 ·rfl
noncomputable def tgWorld (os:Os):World:=
 { World.holding Tryz.prog os ⟨#[], #[], []⟩ with heap:=(World.holding Tryz.prog os ⟨#[], #[], []⟩).heap.modify 1 fun
   | .cells _ t frozen=> .cells #[.int .u32 0, .int .u32 498536548, .int .u32 997073096, .int .u32 651767980, .int .u32 1994146192, .int .u32 1802195444, .int .u32 1303535960, .int .u32 1342533948, .int .u32 3988292384, .int .u32 4027552580, .int .u32 3604390888, .int .u32 3412177804, .int .u32 2607071920, .int .u32 2262029012, .int .u32 2685067896, .int .u32 3183342108] t frozen
   |o=> o }
theorem tgMet (os:Os):laidMet Tryz.prog Rows.topGreatRow.laid ((tgWorld os).forCall (fun _ _=> 0) ⟨#[], #[.int .u8 0, .int .u8 0, .int .u8 0, .bool false], []⟩).memory:=
 laidMet_of_run' 8 (by kernel_rfl) (by kernel_rfl)
theorem tgReads (os:Os) {H:Type} (enc:TypeId×Value→H):∃ places,DataW.whole enc Tryz.prog ((tgWorld os).forCall (fun _ _=> 0) ⟨#[], #[.int .u8 0, .int .u8 0, .int .u8 0, .bool false], []⟩).memory Tryz.f4.params.toList Rows.topGreatSpec.vars false #[Value.int .u8 0, .int .u8 0, .int .u8 0, .bool false].toList 8=some ([.lit (.int .u8 0), .lit (.int .u8 0), .lit (.int .u8 0), .lit (.bool false)], [],places):=
 ⟨[],by kernel_rfl⟩
set_option maxRecDepth 100000 in
theorem tgLifted (os:Os) (started:os.Started) (H:Type) (enc:TypeId×Value→H) (F:Stop.Interp):
  ReturnsInHanded {} Tryz.checked os 4 .any ((OpenSpec.ofChange Rows.topGreatSpec).preRow enc Tryz.prog Tryz.f4 Rows.topGreatRow.domain false Rows.topGreatRow.laid) (((OpenSpec.ofChange Rows.topGreatSpec).at F).post enc Tryz.prog Tryz.f4 false true false false):=by
 obtain ⟨places,hx⟩:=tgReads os enc
 refine returnsInHanded_of_row (C:=Tryz.checked) (s:=OpenSpec.ofChange Rows.topGreatSpec) tgOwn started (by kernel_rfl) Tryz.func4
  (witness_row_at (enc:=enc) (C:=Tryz.checked) false (tgWorld os) #[.int .u8 0, .int .u8 0, .int .u8 0, .bool false] rfl (by kernel_rfl) (by kernel_rfl) (by kernel_rfl)
   (OpenSpec.preRow_of_cond 8 hx (by kernel_rfl) (fun k hk=> by cases hk) (by kernel_rfl) (tgMet os))) ?_
 intro W base args ds gs before hval hW _ _ _ hL _ _
 exact tgContract H enc W base args ds gs before hval hW hL
theorem topGreat_holds:Rows.TopGreatSaid:=
 OpenClaim.holds_of_cond 4 Tryz.f4 rfl rfl rfl rfl rfl rfl rfl ⟨rfl,rfl,rfl,rfl,rfl⟩ rfl rfl rfl rfl rfl tgNamed Tryz.func4 tgClosed
  tgInst tgWrap (fun os started H enc _ F=> by rw [OpenClaim.pre_eq_preRow];exact tgLifted os started H enc F)
theorem tgPlain (f:FuncId) (fn:Func) (hf:Tryz.pinned.checked.prog.funcNamed "quantum/quantumtop.TopGreat" =some f) (hfn:Tryz.pinned.checked.prog.funcs[f]? =some fn):
  true=Tryz.pinned.checked.prog.looks []∧∀ (j:Nat) t,fn.params[j]? =some t→Tryz.pinned.checked.prog.wantsStandIn t=false:=by
 obtain rfl:f=4:=Option.some.inj ((show Tryz.prog.funcNamed "quantum/quantumtop.TopGreat" =some 4 by kernel_rfl).symm.trans hf)|>.symm
 obtain rfl:fn=Tryz.f4:=(Option.some.inj (Tryz.func4.symm.trans hfn)).symm
 refine ⟨by kernel_rfl,fun j t ht=> ?_⟩
 rw [Tryz.params4] at ht
 have hm:=Array.mem_of_getElem? ht
 have hu:Tryz.prog.wantsStandIn 5=false:=by kernel_rfl
 have hb:Tryz.prog.wantsStandIn 4=false:=by kernel_rfl
 have e:t=5∨t=4:=by simpa using hm
 rcases e with rfl|rfl
 ·exact hu
 ·exact hb
theorem topGreat_card:Rows.TopGreatCardSaid:=
 Claim7.holds_tied_plain_at .later [] _ _ _ _ topGreat_holds (fun _ h=> by cases h) (by kernel_rfl) (fun _ h=> by cases h) topGreat_row_tie rfl ⟨rfl,rfl⟩ (by kernel_rfl) rfl tgPlain (by kernel_rfl)
end Go.Proofs.YtckddephdbhagaaGreatDoor
