/-
  DERIVED. GIVEN WITH THE SEED: THE CARDS: each row of YtacmlpgakibdgaaDoorRows.lean that lists a variable, with what it lists TIED to the program's text (the seventh form; the later family's looks); each row that meets fmt, with fmt's text TOLD by the authors' own Lean function (tested against real Go, not proved from fmt's source: count such statements apart). THE CARD IS WHAT COUNTS. Prove the row's statement (the work); the ties are given (YtacmlpgakibdgaaDoorTie.lean); close each card by the builder's one call (the guide's Derived/Test/ToyasCard.lean, 'card_holds'). Laid BY PROGRAM, IN A SANDBOX (cutbox-door.mjs). By AI agents, Wed Nov 11 2026. No macro, syntax, notation, axiom, sorry.
-/
import Derived.Test.YtacmlpgakibdgaaDoorRows
import GoSem.ClaimSeven
namespace Go.Proofs.YtacmlpgakibdgaaDoor
namespace Rows

/-- THE TIED CARD OF 'parleylaw24.StampDays'. -/
def stampDaysCard : Claim7 := { stood := { row := stampDaysRow, standIns := [], harness := (true, "d7ee89daeaa0706c5f6e61bb211d6dde17b8342b2e5a803907b9724cd094884b"), looks := true }, kinds := [], alts := [], laidByText := true, laidKinds := [.data, .data, .data, .sentinel], laidTests := true, laidLooks := .later }
def StampDaysCardSaid : Prop := Claim7.holds Tryd.pinned (.plain (OpenSpec.ofChange stampDaysSpec)) stampDaysCard

/-- THE TIED CARD OF 'parleylaw24.StampOffsets'. -/
def stampOffsetsCard : Claim7 := { stood := { row := stampOffsetsRow, standIns := [], harness := (true, "d7ee89daeaa0706c5f6e61bb211d6dde17b8342b2e5a803907b9724cd094884b"), looks := true }, kinds := [], alts := [], laidByText := true, laidKinds := [.data, .data, .data, .sentinel], laidTests := true, laidLooks := .later }
def StampOffsetsCardSaid : Prop := Claim7.holds Tryd.pinned (.plain (OpenSpec.ofChange stampOffsetsSpec)) stampOffsetsCard

/-- THE TIED CARD OF 'parleylaw24.StampBack'. -/
def stampBackCard : Claim7 := { stood := { row := stampBackRow, standIns := [], harness := (true, "d7ee89daeaa0706c5f6e61bb211d6dde17b8342b2e5a803907b9724cd094884b"), looks := true }, kinds := [], alts := [], laidByText := true, laidKinds := [.data, .data, .data, .sentinel], laidTests := true, laidLooks := .later }
def StampBackCardSaid : Prop := Claim7.holds Tryd.pinned (.plain (OpenSpec.ofChange stampBackSpec)) stampBackCard

/-- THE TIED CARD OF 'parleylaw24.StampAlgebra'. -/
def stampAlgebraCard : Claim7 := { stood := { row := stampAlgebraRow, standIns := [], harness := (true, "d7ee89daeaa0706c5f6e61bb211d6dde17b8342b2e5a803907b9724cd094884b"), looks := true }, kinds := [], alts := [], laidByText := true, laidKinds := [.data, .data, .data, .sentinel], laidTests := true, laidLooks := .later }
def StampAlgebraCardSaid : Prop := Claim7.holds Tryd.pinned (.plain (OpenSpec.ofChange stampAlgebraSpec)) stampAlgebraCard

/-- THE SECOND FORM's CARD OF 'parleylaw24.StampDays'. -/
def stampDaysUptoCard : Claim7 := { stood := { row := stampDaysUptoRow, standIns := [], harness := (true, "d7ee89daeaa0706c5f6e61bb211d6dde17b8342b2e5a803907b9724cd094884b"), looks := true }, kinds := [], alts := [], laidByText := true, laidKinds := [.data, .data, .data, .sentinel], laidTests := true, laidLooks := .later }
def StampDaysUptoCardSaid : Prop := Claim7.holds Tryd.pinned (.plain (OpenSpec.upto stampDaysSpec)) stampDaysUptoCard

/-- THE SECOND FORM's CARD OF 'parleylaw24.StampOffsets'. -/
def stampOffsetsUptoCard : Claim7 := { stood := { row := stampOffsetsUptoRow, standIns := [], harness := (true, "d7ee89daeaa0706c5f6e61bb211d6dde17b8342b2e5a803907b9724cd094884b"), looks := true }, kinds := [], alts := [], laidByText := true, laidKinds := [.data, .data, .data, .sentinel], laidTests := true, laidLooks := .later }
def StampOffsetsUptoCardSaid : Prop := Claim7.holds Tryd.pinned (.plain (OpenSpec.upto stampOffsetsSpec)) stampOffsetsUptoCard

/-- THE SECOND FORM's CARD OF 'parleylaw24.StampBack'. -/
def stampBackUptoCard : Claim7 := { stood := { row := stampBackUptoRow, standIns := [], harness := (true, "d7ee89daeaa0706c5f6e61bb211d6dde17b8342b2e5a803907b9724cd094884b"), looks := true }, kinds := [], alts := [], laidByText := true, laidKinds := [.data, .data, .data, .sentinel], laidTests := true, laidLooks := .later }
def StampBackUptoCardSaid : Prop := Claim7.holds Tryd.pinned (.plain (OpenSpec.upto stampBackSpec)) stampBackUptoCard

/-- THE SECOND FORM's CARD OF 'parleylaw24.StampAlgebra'. -/
def stampAlgebraUptoCard : Claim7 := { stood := { row := stampAlgebraUptoRow, standIns := [], harness := (true, "d7ee89daeaa0706c5f6e61bb211d6dde17b8342b2e5a803907b9724cd094884b"), looks := true }, kinds := [], alts := [], laidByText := true, laidKinds := [.data, .data, .data, .sentinel], laidTests := true, laidLooks := .later }
def StampAlgebraUptoCardSaid : Prop := Claim7.holds Tryd.pinned (.plain (OpenSpec.upto stampAlgebraSpec)) stampAlgebraUptoCard
end Rows
end Go.Proofs.YtacmlpgakibdgaaDoor
