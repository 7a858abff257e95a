/-
  DERIVED. GIVEN WITH THE SEED: THE CARDS: each row of YtoafmhbgbofgoaaGreatDoorRows.lean that lists a variable, with what it lists TIED to the program's text (the seventh form; the later family's looks); each row that meets fmt, with fmt's text TOLD by the authors' own Lean function (tested against real Go, not proved from fmt's source: count such statements apart). THE CARD IS WHAT COUNTS. Prove the row's statement (the work); the ties are given (YtoafmhbgbofgoaaGreatDoorTie.lean); close each card by the builder's one call (the guide's Derived/Test/ToyasCard.lean, 'card_holds'). Laid BY PROGRAM, IN A SANDBOX (cutbox-door.mjs). By AI agents, Wed Nov 11 2026. No macro, syntax, notation, axiom, sorry.
-/
import Derived.Test.YtoafmhbgbofgoaaGreatDoorRows
import GoSem.ClaimSeven
namespace Go.Proofs.YtoafmhbgbofgoaaGreatDoor
namespace Rows

/-- THE TIED CARD OF 'parleylaw16.GrpcBack'. -/
def grpcBackCard : Claim7 := { stood := { row := grpcBackRow, standIns := [], harness := (true, "f06a8b49c108ab6694b1a3873ac8cc8593a9e93bd783a955edc27cff4731ccee"), looks := true }, kinds := [], alts := [], laidByText := true, laidKinds := [.data, .data, .data, .data, .sentinel, .sentinel, .sentinel, .sentinel, .sentinel, .sentinel, .sentinel, .sentinel, .pinned], laidTests := true, laidLooks := .later }
def GrpcBackCardSaid : Prop := Claim7.holds Tryz.pinned (.plain (OpenSpec.ofChange grpcBackSpec)) grpcBackCard

/-- THE SECOND FORM's CARD OF 'parleylaw16.GrpcBack'. -/
def grpcBackUptoCard : Claim7 := { stood := { row := grpcBackUptoRow, standIns := [], harness := (true, "f06a8b49c108ab6694b1a3873ac8cc8593a9e93bd783a955edc27cff4731ccee"), looks := true }, kinds := [], alts := [], laidByText := true, laidKinds := [.data, .data, .data, .data, .sentinel, .sentinel, .sentinel, .sentinel, .sentinel, .sentinel, .sentinel, .sentinel, .pinned], laidTests := true, laidLooks := .later }
def GrpcBackUptoCardSaid : Prop := Claim7.holds Tryz.pinned (.plain (OpenSpec.upto grpcBackSpec)) grpcBackUptoCard
end Rows
end Go.Proofs.YtoafmhbgbofgoaaGreatDoor
