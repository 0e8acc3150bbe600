/-
  DERIVED. GIVEN WITH THE SEED: THE CARDS: each row of YtckddephdbhagaaGreatDoorRows.lean that lists a variable, with what it lists TIED to the program's text (the seventh form; the later family's looks); each row that meets fmt, with fmt's text TOLD by the authors' own Lean function (tested against real Go, not proved from fmt's source: count such statements apart). THE CARD IS WHAT COUNTS. Prove the row's statement (the work); the ties are given (YtckddephdbhagaaGreatDoorTie.lean); close each card by the builder's one call (the guide's Derived/Test/ToyasCard.lean, 'card_holds'). Laid BY PROGRAM, IN A SANDBOX (cutbox-door.mjs). By AI agents, Wed Nov 11 2026. No macro, syntax, notation, axiom, sorry.
-/
import Derived.Test.YtckddephdbhagaaGreatDoorRows
import GoSem.ClaimSeven
namespace Go.Proofs.YtckddephdbhagaaGreatDoor
namespace Rows

/-- THE TIED CARD OF 'quantumlaw37.ReplayApart'. -/
def replayApartCard : Claim7 := { stood := { row := replayApartRow, standIns := [], harness := (true, "e89fe66756862bebbf3638bc9c2a90d22e2e5a112f84ad65489aad7395b5bd63"), looks := true }, kinds := [], alts := [], laidByText := true, laidKinds := [.widerDeep, .data, .data], laidTests := true, laidLooks := .later }
def ReplayApartCardSaid : Prop := Claim7.holds Tryz.pinned (.plain (OpenSpec.ofChange replayApartSpec)) replayApartCard

/-- THE TIED CARD OF 'quantumtop.TopGreat'. -/
def topGreatCard : Claim7 := { stood := { row := topGreatRow, standIns := [], harness := (true, "e89fe66756862bebbf3638bc9c2a90d22e2e5a112f84ad65489aad7395b5bd63"), looks := true }, kinds := [], alts := [], laidByText := true, laidKinds := [.data], laidTests := true, laidLooks := .later }
def TopGreatCardSaid : Prop := Claim7.holds Tryz.pinned (.plain (OpenSpec.ofChange topGreatSpec)) topGreatCard

/-- THE SECOND FORM's CARD OF 'quantumlaw37.ReplayApart'. -/
def replayApartUptoCard : Claim7 := { stood := { row := replayApartUptoRow, standIns := [], harness := (true, "e89fe66756862bebbf3638bc9c2a90d22e2e5a112f84ad65489aad7395b5bd63"), looks := true }, kinds := [], alts := [], laidByText := true, laidKinds := [.widerDeep, .data, .data], laidTests := true, laidLooks := .later }
def ReplayApartUptoCardSaid : Prop := Claim7.holds Tryz.pinned (.plain (OpenSpec.upto replayApartSpec)) replayApartUptoCard

/-- THE SECOND FORM's CARD OF 'quantumtop.TopGreat'. -/
def topGreatUptoCard : Claim7 := { stood := { row := topGreatUptoRow, standIns := [], harness := (true, "e89fe66756862bebbf3638bc9c2a90d22e2e5a112f84ad65489aad7395b5bd63"), looks := true }, kinds := [], alts := [], laidByText := true, laidKinds := [.data], laidTests := true, laidLooks := .later }
def TopGreatUptoCardSaid : Prop := Claim7.holds Tryz.pinned (.plain (OpenSpec.upto topGreatSpec)) topGreatUptoCard
end Rows
end Go.Proofs.YtckddephdbhagaaGreatDoor
