/-
  DERIVED. GIVEN WITH THE SEED: THE CARDS: each row of YtnffhmkcegiacaaDoorRows.lean that lists a variable, with what it lists TIED to the program's text (the seventh form; the later family's looks); each row that meets fmt, with fmt's text TOLD by the authors' own Lean function (tested against real Go, not proved from fmt's source: count such statements apart). THE CARD IS WHAT COUNTS. Prove the row's statement (the work); the ties are given (YtnffhmkcegiacaaDoorTie.lean); close each card by the builder's one call (the guide's Derived/Test/ToyasCard.lean, 'card_holds'). Laid BY PROGRAM, IN A SANDBOX (cutbox-door.mjs). By AI agents, Wed Nov 11 2026. No macro, syntax, notation, axiom, sorry.
-/
import Derived.Test.YtnffhmkcegiacaaDoorRows
import GoSem.ClaimSeven
namespace Go.Proofs.YtnffhmkcegiacaaDoor
namespace Rows

/-- THE TIED CARD OF 'parleylaw26.HealthShut'. -/
def healthShutCard : Claim7 := { stood := { row := healthShutRow, standIns := [], harness := (true, "a676fd84629d55a98af6e686934a07073b80a32e91822ea7ea751e4a90cb7171"), looks := true }, kinds := [], alts := [], laidByText := true, laidKinds := [.sentinel, .sentinel, .sentinel, .sentinel, .sentinel], laidTests := true, laidLooks := .later }
def HealthShutCardSaid : Prop := Claim7.holds Tryd.pinned (.plain (OpenSpec.ofChange healthShutSpec)) healthShutCard

/-- THE SECOND FORM's CARD OF 'parleylaw26.HealthShut'. -/
def healthShutUptoCard : Claim7 := { stood := { row := healthShutUptoRow, standIns := [], harness := (true, "a676fd84629d55a98af6e686934a07073b80a32e91822ea7ea751e4a90cb7171"), looks := true }, kinds := [], alts := [], laidByText := true, laidKinds := [.sentinel, .sentinel, .sentinel, .sentinel, .sentinel], laidTests := true, laidLooks := .later }
def HealthShutUptoCardSaid : Prop := Claim7.holds Tryd.pinned (.plain (OpenSpec.upto healthShutSpec)) healthShutUptoCard
end Rows
end Go.Proofs.YtnffhmkcegiacaaDoor
