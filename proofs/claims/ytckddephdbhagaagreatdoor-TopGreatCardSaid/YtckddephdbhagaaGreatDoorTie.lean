/-
  DERIVED. GIVEN WITH THE SEED: THE PROGRAM's TIES (one call each: nine closed facts by the kernel) AND EACH ROW's TIE, after the 31st guide's Derived/Test/Toyas{Tie, Card}.lean. No idea stands in it: it is a product of the set-up. Laid BY PROGRAM, IN A SANDBOX (cutbox-door.mjs). By AI agents, Wed Nov 11 2026. No macro, syntax, notation, axiom, sorry.
-/
import Derived.Test.YtckddephdbhagaaGreatDoorRows
import Derived.LaidByTextLater
import Derived.SevenTiedAt
import Derived.LaidSub
import Derived.LaidOnce
namespace Go.Proofs.YtckddephdbhagaaGreatDoor
open Go
set_option maxRecDepth 100000
theorem seatTie1 : Tryz.prog.laidByTextLater [("quantum/event.uses", Rows.laid_quantum_event_uses), ("quantum/crc.halves", Rows.laid_quantum_crc_halves), ("quantum/block.magic", Rows.laid_quantum_block_magic)] [.widerDeep, .data, .data] true :=
  Program.laidByTextLater_by_one 34 8 17 (by kernel_rfl) (by kernel_rfl) (by kernel_rfl) (by kernel_rfl) (by kernel_rfl) (by kernel_rfl) (fun _ _ => by kernel_rfl)
theorem noOwnUnsafe : Tryz.pinned.checked.prog.headLifts.contains "ownunsafe" = false := by kernel_rfl
theorem tie : Tryz.prog.laidByTextLater [("quantum/event.uses", Rows.laid_quantum_event_uses), ("quantum/crc.halves", Rows.laid_quantum_crc_halves), ("quantum/block.magic", Rows.laid_quantum_block_magic)] [.widerDeep, .data, .data] true :=
  Program.laidByTextLater.sub seatTie1 ["quantum/event.uses", "quantum/crc.halves", "quantum/block.magic"] (by kernel_rfl) (by kernel_rfl)
theorem replayApart_row_tie : Rows.replayApartRow.laidByTextAt .later Tryz.pinned [.widerDeep, .data, .data] true :=
  OpenClaim.laidByTextAt_later rfl rfl tie noOwnUnsafe
theorem tie2 : Tryz.prog.laidByTextLater [("quantum/crc.halves", Rows.laid_quantum_crc_halves)] [.data] true :=
  Program.laidByTextLater.sub seatTie1 ["quantum/crc.halves"] (by kernel_rfl) (by kernel_rfl)
theorem topGreat_row_tie : Rows.topGreatRow.laidByTextAt .later Tryz.pinned [.data] true :=
  OpenClaim.laidByTextAt_later rfl rfl tie2 noOwnUnsafe
theorem replayApartUpto_row_tie : Rows.replayApartUptoRow.laidByTextAt .later Tryz.pinned [.widerDeep, .data, .data] true :=
  OpenClaim.laidByTextAt_later rfl rfl tie noOwnUnsafe
theorem topGreatUpto_row_tie : Rows.topGreatUptoRow.laidByTextAt .later Tryz.pinned [.data] true :=
  OpenClaim.laidByTextAt_later rfl rfl tie2 noOwnUnsafe
end Go.Proofs.YtckddephdbhagaaGreatDoor
