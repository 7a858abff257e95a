/-
  DERIVED. GIVEN WITH THE SEED: THE CARDS: each row of YtkikcinpgbgbdaaDoorRows.lean that lists a variable, with what it lists TIED to the program's text (the seventh form; the later family's looks); each row that meets fmt, with fmt's text TOLD by the authors' own Lean function (tested against real Go, not proved from fmt's source: count such statements apart). THE CARD IS WHAT COUNTS. Prove the row's statement (the work); the ties are given (YtkikcinpgbgbdaaDoorTie.lean); close each card by the builder's one call (the guide's Derived/Test/ToyasCard.lean, 'card_holds'). Laid BY PROGRAM, IN A SANDBOX (cutbox-door.mjs). By AI agents, Wed Nov 11 2026. No macro, syntax, notation, axiom, sorry.
-/
import Derived.Test.YtkikcinpgbgbdaaDoorRows
import GoSem.ClaimSeven
namespace Go.Proofs.YtkikcinpgbgbdaaDoor
namespace Rows

/-- THE TIED CARD OF 'parleylaw6.HeadLess'. -/
def headLessCard : Claim7 := { stood := { row := headLessRow, standIns := [], harness := (true, "42d31c44b4fdf55de5fd3cc4294cfed7d202eea0a1bb86d8b1a56e22a28f8f45"), looks := true }, kinds := [], alts := [], laidByText := true, laidKinds := [.data, .data, .data, .data, .sentinel, .sentinel, .sentinel, .pinned], laidTests := true, laidLooks := .later }
def HeadLessCardSaid : Prop := Claim7.holds Tryd.pinned (.plain (OpenSpec.ofChange headLessSpec)) headLessCard

/-- THE TIED CARD OF 'parleylaw6.HeadMore'. -/
def headMoreCard : Claim7 := { stood := { row := headMoreRow, standIns := [], harness := (true, "42d31c44b4fdf55de5fd3cc4294cfed7d202eea0a1bb86d8b1a56e22a28f8f45"), looks := true }, kinds := [], alts := [], laidByText := true, laidKinds := [.data, .data, .data, .data, .sentinel, .sentinel, .sentinel, .pinned], laidTests := true, laidLooks := .later }
def HeadMoreCardSaid : Prop := Claim7.holds Tryd.pinned (.plain (OpenSpec.ofChange headMoreSpec)) headMoreCard

/-- THE TIED CARD OF 'parleylaw6.HeadBack'. -/
def headBackCard : Claim7 := { stood := { row := headBackRow, standIns := [], harness := (true, "42d31c44b4fdf55de5fd3cc4294cfed7d202eea0a1bb86d8b1a56e22a28f8f45"), looks := true }, kinds := [], alts := [], laidByText := true, laidKinds := [.data, .data, .data, .data, .sentinel, .sentinel, .sentinel, .pinned], laidTests := true, laidLooks := .later }
def HeadBackCardSaid : Prop := Claim7.holds Tryd.pinned (.plain (OpenSpec.ofChange headBackSpec)) headBackCard

/-- THE SECOND FORM's CARD OF 'parleylaw6.HeadLess'. -/
def headLessUptoCard : Claim7 := { stood := { row := headLessUptoRow, standIns := [], harness := (true, "42d31c44b4fdf55de5fd3cc4294cfed7d202eea0a1bb86d8b1a56e22a28f8f45"), looks := true }, kinds := [], alts := [], laidByText := true, laidKinds := [.data, .data, .data, .data, .sentinel, .sentinel, .sentinel, .pinned], laidTests := true, laidLooks := .later }
def HeadLessUptoCardSaid : Prop := Claim7.holds Tryd.pinned (.plain (OpenSpec.upto headLessSpec)) headLessUptoCard

/-- THE SECOND FORM's CARD OF 'parleylaw6.HeadMore'. -/
def headMoreUptoCard : Claim7 := { stood := { row := headMoreUptoRow, standIns := [], harness := (true, "42d31c44b4fdf55de5fd3cc4294cfed7d202eea0a1bb86d8b1a56e22a28f8f45"), looks := true }, kinds := [], alts := [], laidByText := true, laidKinds := [.data, .data, .data, .data, .sentinel, .sentinel, .sentinel, .pinned], laidTests := true, laidLooks := .later }
def HeadMoreUptoCardSaid : Prop := Claim7.holds Tryd.pinned (.plain (OpenSpec.upto headMoreSpec)) headMoreUptoCard

/-- THE SECOND FORM's CARD OF 'parleylaw6.HeadBack'. -/
def headBackUptoCard : Claim7 := { stood := { row := headBackUptoRow, standIns := [], harness := (true, "42d31c44b4fdf55de5fd3cc4294cfed7d202eea0a1bb86d8b1a56e22a28f8f45"), looks := true }, kinds := [], alts := [], laidByText := true, laidKinds := [.data, .data, .data, .data, .sentinel, .sentinel, .sentinel, .pinned], laidTests := true, laidLooks := .later }
def HeadBackUptoCardSaid : Prop := Claim7.holds Tryd.pinned (.plain (OpenSpec.upto headBackSpec)) headBackUptoCard
end Rows
end Go.Proofs.YtkikcinpgbgbdaaDoor
