/-
  DERIVED. GIVEN WITH THE SEED: THE CARDS: each row of YtkpppjhbmnfmkaaGreatDoorRows.lean that lists a variable, with what it lists TIED to the program's text (the seventh form; the later family's looks); each row that meets fmt, with fmt's text TOLD by the authors' own Lean function (tested against real Go, not proved from fmt's source: count such statements apart). THE CARD IS WHAT COUNTS. Prove the row's statement (the work); the ties are given (YtkpppjhbmnfmkaaGreatDoorTie.lean); close each card by the builder's one call (the guide's Derived/Test/ToyasCard.lean, 'card_holds'). Laid BY PROGRAM, IN A SANDBOX (cutbox-door.mjs). By AI agents, Wed Nov 11 2026. No macro, syntax, notation, axiom, sorry.
-/
import Derived.Test.YtkpppjhbmnfmkaaGreatDoorRows
import GoSem.ClaimSeven
namespace Go.Proofs.YtkpppjhbmnfmkaaGreatDoor
namespace Rows

/-- THE TIED CARD OF 'parleylaw8.ConnIdle'. -/
def connIdleCard : Claim7 := { stood := { row := connIdleRow, standIns := [], harness := (true, "0a5cc1771959e15853f4e3e7d5bb78676278161da77d90cd229afe756b485533"), looks := true }, kinds := [], alts := [], laidByText := true, laidKinds := [.data, .data, .data, .data, .sentinel, .sentinel, .sentinel, .sentinel, .sentinel, .sentinel, .sentinel, .sentinel, .sentinel, .sentinel, .sentinel, .sentinel, .sentinel, .sentinel, .pinned], laidTests := true, laidLooks := .later }
def ConnIdleCardSaid : Prop := Claim7.holds Tryz.pinned (.plain (OpenSpec.ofChange connIdleSpec)) connIdleCard

/-- THE TIED CARD OF 'parleylaw8.ConnPieces'. -/
def connPiecesCard : Claim7 := { stood := { row := connPiecesRow, standIns := [], harness := (true, "0a5cc1771959e15853f4e3e7d5bb78676278161da77d90cd229afe756b485533"), looks := true }, kinds := [], alts := [], laidByText := true, laidKinds := [.data, .data, .data, .data, .sentinel, .sentinel, .sentinel, .sentinel, .sentinel, .sentinel, .sentinel, .sentinel, .sentinel, .sentinel, .sentinel, .sentinel, .sentinel, .sentinel, .pinned], laidTests := true, laidLooks := .later }
def ConnPiecesCardSaid : Prop := Claim7.holds Tryz.pinned (.plain (OpenSpec.ofChange connPiecesSpec)) connPiecesCard

/-- THE TIED CARD OF 'parleylaw8.ConnHeads'. -/
def connHeadsCard : Claim7 := { stood := { row := connHeadsRow, standIns := [], harness := (true, "0a5cc1771959e15853f4e3e7d5bb78676278161da77d90cd229afe756b485533"), looks := true }, kinds := [], alts := [], laidByText := true, laidKinds := [.data, .data, .data, .data, .sentinel, .sentinel, .sentinel, .sentinel, .sentinel, .sentinel, .sentinel, .sentinel, .sentinel, .sentinel, .sentinel, .sentinel, .sentinel, .sentinel, .pinned], laidTests := true, laidLooks := .later }
def ConnHeadsCardSaid : Prop := Claim7.holds Tryz.pinned (.plain (OpenSpec.ofChange connHeadsSpec)) connHeadsCard

/-- THE TIED CARD OF 'parleylaw8.ConnOwn'. -/
def connOwnCard : Claim7 := { stood := { row := connOwnRow, standIns := [], harness := (true, "0a5cc1771959e15853f4e3e7d5bb78676278161da77d90cd229afe756b485533"), looks := true }, kinds := [], alts := [], laidByText := true, laidKinds := [.data, .data, .data, .data, .sentinel, .sentinel, .sentinel, .sentinel, .sentinel, .sentinel, .sentinel, .sentinel, .sentinel, .sentinel, .sentinel, .sentinel, .sentinel, .sentinel, .sentinel, .sentinel, .pinned], laidTests := true, laidLooks := .later }
def ConnOwnCardSaid : Prop := Claim7.holds Tryz.pinned (.plain (OpenSpec.ofChange connOwnSpec)) connOwnCard

/-- THE TIED CARD OF 'parleylaw8.ConnWindow'. -/
def connWindowCard : Claim7 := { stood := { row := connWindowRow, standIns := [], harness := (true, "0a5cc1771959e15853f4e3e7d5bb78676278161da77d90cd229afe756b485533"), looks := true }, kinds := [], alts := [], laidByText := true, laidKinds := [.data, .data, .data, .data, .sentinel, .sentinel, .sentinel, .sentinel, .sentinel, .sentinel, .sentinel, .sentinel, .sentinel, .sentinel, .sentinel, .sentinel, .sentinel, .sentinel, .sentinel, .sentinel, .pinned], laidTests := true, laidLooks := .later }
def ConnWindowCardSaid : Prop := Claim7.holds Tryz.pinned (.plain (OpenSpec.ofChange connWindowSpec)) connWindowCard

/-- THE SECOND FORM's CARD OF 'parleylaw8.ConnIdle'. -/
def connIdleUptoCard : Claim7 := { stood := { row := connIdleUptoRow, standIns := [], harness := (true, "0a5cc1771959e15853f4e3e7d5bb78676278161da77d90cd229afe756b485533"), looks := true }, kinds := [], alts := [], laidByText := true, laidKinds := [.data, .data, .data, .data, .sentinel, .sentinel, .sentinel, .sentinel, .sentinel, .sentinel, .sentinel, .sentinel, .sentinel, .sentinel, .sentinel, .sentinel, .sentinel, .sentinel, .pinned], laidTests := true, laidLooks := .later }
def ConnIdleUptoCardSaid : Prop := Claim7.holds Tryz.pinned (.plain (OpenSpec.upto connIdleSpec)) connIdleUptoCard

/-- THE SECOND FORM's CARD OF 'parleylaw8.ConnPieces'. -/
def connPiecesUptoCard : Claim7 := { stood := { row := connPiecesUptoRow, standIns := [], harness := (true, "0a5cc1771959e15853f4e3e7d5bb78676278161da77d90cd229afe756b485533"), looks := true }, kinds := [], alts := [], laidByText := true, laidKinds := [.data, .data, .data, .data, .sentinel, .sentinel, .sentinel, .sentinel, .sentinel, .sentinel, .sentinel, .sentinel, .sentinel, .sentinel, .sentinel, .sentinel, .sentinel, .sentinel, .pinned], laidTests := true, laidLooks := .later }
def ConnPiecesUptoCardSaid : Prop := Claim7.holds Tryz.pinned (.plain (OpenSpec.upto connPiecesSpec)) connPiecesUptoCard

/-- THE SECOND FORM's CARD OF 'parleylaw8.ConnHeads'. -/
def connHeadsUptoCard : Claim7 := { stood := { row := connHeadsUptoRow, standIns := [], harness := (true, "0a5cc1771959e15853f4e3e7d5bb78676278161da77d90cd229afe756b485533"), looks := true }, kinds := [], alts := [], laidByText := true, laidKinds := [.data, .data, .data, .data, .sentinel, .sentinel, .sentinel, .sentinel, .sentinel, .sentinel, .sentinel, .sentinel, .sentinel, .sentinel, .sentinel, .sentinel, .sentinel, .sentinel, .pinned], laidTests := true, laidLooks := .later }
def ConnHeadsUptoCardSaid : Prop := Claim7.holds Tryz.pinned (.plain (OpenSpec.upto connHeadsSpec)) connHeadsUptoCard

/-- THE SECOND FORM's CARD OF 'parleylaw8.ConnOwn'. -/
def connOwnUptoCard : Claim7 := { stood := { row := connOwnUptoRow, standIns := [], harness := (true, "0a5cc1771959e15853f4e3e7d5bb78676278161da77d90cd229afe756b485533"), looks := true }, kinds := [], alts := [], laidByText := true, laidKinds := [.data, .data, .data, .data, .sentinel, .sentinel, .sentinel, .sentinel, .sentinel, .sentinel, .sentinel, .sentinel, .sentinel, .sentinel, .sentinel, .sentinel, .sentinel, .sentinel, .sentinel, .sentinel, .pinned], laidTests := true, laidLooks := .later }
def ConnOwnUptoCardSaid : Prop := Claim7.holds Tryz.pinned (.plain (OpenSpec.upto connOwnSpec)) connOwnUptoCard

/-- THE SECOND FORM's CARD OF 'parleylaw8.ConnWindow'. -/
def connWindowUptoCard : Claim7 := { stood := { row := connWindowUptoRow, standIns := [], harness := (true, "0a5cc1771959e15853f4e3e7d5bb78676278161da77d90cd229afe756b485533"), looks := true }, kinds := [], alts := [], laidByText := true, laidKinds := [.data, .data, .data, .data, .sentinel, .sentinel, .sentinel, .sentinel, .sentinel, .sentinel, .sentinel, .sentinel, .sentinel, .sentinel, .sentinel, .sentinel, .sentinel, .sentinel, .sentinel, .sentinel, .pinned], laidTests := true, laidLooks := .later }
def ConnWindowUptoCardSaid : Prop := Claim7.holds Tryz.pinned (.plain (OpenSpec.upto connWindowSpec)) connWindowUptoCard
end Rows
end Go.Proofs.YtkpppjhbmnfmkaaGreatDoor
