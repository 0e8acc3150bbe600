/- A part of the proof that TopGreat answers true: what some of the functions on its road compute. -/
import Derived.Test.YtckddephdbhagaaGreatDoorQ39
set_option linter.unusedVariables false
set_option linter.unusedSimpArgs false
set_option linter.unnecessarySimpa false
namespace Go.Proofs.YtckddephdbhagaaGreatDoor
open Go
set_option maxRecDepth 100000 in
theorem tgClosed:joinedFacts Tryz.pinned.checked.prog 4 Tryz.f4 (OpenSpec.ofChange Rows.topGreatSpec).bare Rows.topGreatRow=true:=by
 unfold joinedFacts
 exact (tgAnd (tgAnd (tgAnd (tgAnd (tgAnd (tgAnd (tgAnd (tgAnd (tgAnd (tgAnd (tgAnd (tgAnd (tgAnd (tgAnd (tgAnd (tgAnd (tgAnd (tgAnd (tgAnd (tgAnd (tgAnd (tgAnd (tgAnd (tgAnd (tgAnd (tgAnd (tgAnd (tgAnd (tgAnd (tgAnd (tgAnd tgFact0 tgFact1) tgFact2) tgFact3) tgFact4) tgFact5) tgFact6) tgFact7) tgFact8) tgFact9) tgFact10) tgFact11) tgFact12) tgFact13) tgFact14) tgFact15) tgFact16) tgFact17) tgFact18) tgFact19) tgFact20) tgFact21) tgFact22) tgFact23) tgFact24) tgFact25) tgFact26) tgFact27) tgFact28) tgFact29) tgFact30) tgFact31)
theorem tgNamed:Tryz.pinned.checked.prog.funcNamed Rows.topGreatRow.func=some 4:=by kernel_rfl
theorem tgInst:Tryz.f4.isInstance Tryz.pinned.checked.prog Rows.topGreatRow.origin Rows.topGreatRow.targs:=of_decide_eq_true (by kernel_rfl)
theorem tgWrap:Tryz.f4.isWrapper Tryz.pinned.checked.prog Rows.topGreatRow.wrapper Rows.topGreatRow.mainSum:=by unfold Func.isWrapper;first|(rw [if_pos (by decide+kernel)];kernel_rfl)|(rw [if_neg (by decide+kernel)];exact ⟨rfl,rfl⟩)
end Go.Proofs.YtckddephdbhagaaGreatDoor
