/-
  DERIVED. GIVEN WITH THE SEED: THE CARDS: each row of YtamakfbeofdbfaaGreatDoorRows.lean that lists a variable, with what it lists TIED to the program's text (the seventh form; the later family's looks); each row that meets fmt, with fmt's text TOLD by the authors' own Lean function (tested against real Go, not proved from fmt's source: count such statements apart). THE CARD IS WHAT COUNTS. Prove the row's statement (the work); the ties are given (YtamakfbeofdbfaaGreatDoorTie.lean); close each card by the builder's one call (the guide's Derived/Test/ToyasCard.lean, 'card_holds'). Laid BY PROGRAM, IN A SANDBOX (cutbox-door.mjs). By AI agents, Wed Nov 11 2026. No macro, syntax, notation, axiom, sorry.
-/
import Derived.Test.YtamakfbeofdbfaaGreatDoorRows
import GoSem.ClaimSeven
namespace Go.Proofs.YtamakfbeofdbfaaGreatDoor
namespace Rows

/-- THE TIED CARD OF 'parleylaw8.ConnStarts'. -/
def connStartsCard : Claim7 := { stood := { row := connStartsRow, standIns := [], harness := (true, "43815a8fbedd9487198ca43c17f8c6c4e0f05f357a6705c08eaeddd4d6764d86"), looks := true }, kinds := [], alts := [], laidByText := true, laidKinds := [.data, .data, .data, .data, .sentinel, .sentinel, .sentinel, .sentinel, .sentinel, .sentinel, .sentinel, .sentinel, .sentinel, .sentinel, .sentinel, .sentinel, .sentinel, .sentinel, .pinned], laidTests := true, laidLooks := .later }
def ConnStartsCardSaid : Prop := Claim7.holds Tryz.pinned (.plain (OpenSpec.ofChange connStartsSpec)) connStartsCard

/-- THE SECOND FORM's CARD OF 'parleylaw8.ConnStarts'. -/
def connStartsUptoCard : Claim7 := { stood := { row := connStartsUptoRow, standIns := [], harness := (true, "43815a8fbedd9487198ca43c17f8c6c4e0f05f357a6705c08eaeddd4d6764d86"), looks := true }, kinds := [], alts := [], laidByText := true, laidKinds := [.data, .data, .data, .data, .sentinel, .sentinel, .sentinel, .sentinel, .sentinel, .sentinel, .sentinel, .sentinel, .sentinel, .sentinel, .sentinel, .sentinel, .sentinel, .sentinel, .pinned], laidTests := true, laidLooks := .later }
def ConnStartsUptoCardSaid : Prop := Claim7.holds Tryz.pinned (.plain (OpenSpec.upto connStartsSpec)) connStartsUptoCard
end Rows
end Go.Proofs.YtamakfbeofdbfaaGreatDoor
