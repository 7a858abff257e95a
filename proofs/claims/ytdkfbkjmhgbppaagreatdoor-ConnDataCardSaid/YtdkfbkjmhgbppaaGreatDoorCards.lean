/-
  DERIVED. GIVEN WITH THE SEED: THE CARDS: each row of YtdkfbkjmhgbppaaGreatDoorRows.lean that lists a variable, with what it lists TIED to the program's text (the seventh form; the later family's looks); each row that meets fmt, with fmt's text TOLD by the authors' own Lean function (tested against real Go, not proved from fmt's source: count such statements apart). THE CARD IS WHAT COUNTS. Prove the row's statement (the work); the ties are given (YtdkfbkjmhgbppaaGreatDoorTie.lean); close each card by the builder's one call (the guide's Derived/Test/ToyasCard.lean, 'card_holds'). Laid BY PROGRAM, IN A SANDBOX (cutbox-door.mjs). By AI agents, Wed Nov 11 2026. No macro, syntax, notation, axiom, sorry.
-/
import Derived.Test.YtdkfbkjmhgbppaaGreatDoorRows
import GoSem.ClaimSeven
namespace Go.Proofs.YtdkfbkjmhgbppaaGreatDoor
namespace Rows

/-- THE TIED CARD OF 'parleylaw8.ConnData'. -/
def connDataCard : Claim7 := { stood := { row := connDataRow, standIns := [], harness := (true, "f9acede676797307d26bec205ac8400d42e6c302904bf2b896cb974ff8fd591c"), looks := true }, kinds := [], alts := [], laidByText := true, laidKinds := [.data, .data, .data, .data, .sentinel, .sentinel, .sentinel, .sentinel, .sentinel, .sentinel, .sentinel, .sentinel, .sentinel, .sentinel, .sentinel, .sentinel, .sentinel, .sentinel, .sentinel, .pinned], laidTests := true, laidLooks := .later }
def ConnDataCardSaid : Prop := Claim7.holds Tryz.pinned (.plain (OpenSpec.ofChange connDataSpec)) connDataCard

/-- THE TIED CARD OF 'parleylaw8.ConnStreams'. -/
def connStreamsCard : Claim7 := { stood := { row := connStreamsRow, standIns := [], harness := (true, "f9acede676797307d26bec205ac8400d42e6c302904bf2b896cb974ff8fd591c"), looks := true }, kinds := [], alts := [], laidByText := true, laidKinds := [.data, .data, .data, .data, .sentinel, .sentinel, .sentinel, .sentinel, .sentinel, .sentinel, .sentinel, .sentinel, .sentinel, .sentinel, .sentinel, .sentinel, .sentinel, .sentinel, .sentinel, .pinned], laidTests := true, laidLooks := .later }
def ConnStreamsCardSaid : Prop := Claim7.holds Tryz.pinned (.plain (OpenSpec.ofChange connStreamsSpec)) connStreamsCard

/-- THE TIED CARD OF 'parleylaw8.ConnLists'. -/
def connListsCard : Claim7 := { stood := { row := connListsRow, standIns := [], harness := (true, "f9acede676797307d26bec205ac8400d42e6c302904bf2b896cb974ff8fd591c"), looks := true }, kinds := [], alts := [], laidByText := true, laidKinds := [.data, .data, .data, .data, .sentinel, .sentinel, .sentinel, .sentinel, .sentinel, .sentinel, .sentinel, .sentinel, .sentinel, .sentinel, .sentinel, .sentinel, .sentinel, .sentinel, .sentinel, .pinned], laidTests := true, laidLooks := .later }
def ConnListsCardSaid : Prop := Claim7.holds Tryz.pinned (.plain (OpenSpec.ofChange connListsSpec)) connListsCard

/-- THE TIED CARD OF 'parleylaw8.ConnGoAway'. -/
def connGoAwayCard : Claim7 := { stood := { row := connGoAwayRow, standIns := [], harness := (true, "f9acede676797307d26bec205ac8400d42e6c302904bf2b896cb974ff8fd591c"), looks := true }, kinds := [], alts := [], laidByText := true, laidKinds := [.data, .data, .data, .data, .sentinel, .sentinel, .sentinel, .sentinel, .sentinel, .sentinel, .sentinel, .sentinel, .sentinel, .sentinel, .sentinel, .sentinel, .sentinel, .sentinel, .sentinel, .pinned], laidTests := true, laidLooks := .later }
def ConnGoAwayCardSaid : Prop := Claim7.holds Tryz.pinned (.plain (OpenSpec.ofChange connGoAwaySpec)) connGoAwayCard

/-- THE TIED CARD OF 'parleylaw8.ConnWindow'. -/
def connWindowCard : Claim7 := { stood := { row := connWindowRow, standIns := [], harness := (true, "f9acede676797307d26bec205ac8400d42e6c302904bf2b896cb974ff8fd591c"), looks := true }, kinds := [], alts := [], laidByText := true, laidKinds := [.data, .data, .data, .data, .sentinel, .sentinel, .sentinel, .sentinel, .sentinel, .sentinel, .sentinel, .sentinel, .sentinel, .sentinel, .sentinel, .sentinel, .sentinel, .sentinel, .sentinel, .sentinel, .pinned], laidTests := true, laidLooks := .later }
def ConnWindowCardSaid : Prop := Claim7.holds Tryz.pinned (.plain (OpenSpec.ofChange connWindowSpec)) connWindowCard

/-- THE TIED CARD OF 'parleylaw8.ConnDead'. -/
def connDeadCard : Claim7 := { stood := { row := connDeadRow, standIns := [], harness := (true, "f9acede676797307d26bec205ac8400d42e6c302904bf2b896cb974ff8fd591c"), looks := true }, kinds := [], alts := [], laidByText := true, laidKinds := [.data, .data, .data, .data, .sentinel, .sentinel, .sentinel, .sentinel, .sentinel, .sentinel, .sentinel, .sentinel, .sentinel, .sentinel, .sentinel, .sentinel, .sentinel, .sentinel, .sentinel, .sentinel, .pinned], laidTests := true, laidLooks := .later }
def ConnDeadCardSaid : Prop := Claim7.holds Tryz.pinned (.plain (OpenSpec.ofChange connDeadSpec)) connDeadCard

/-- THE TIED CARD OF 'parleylaw8.ConnTells'. -/
def connTellsCard : Claim7 := { stood := { row := connTellsRow, standIns := [], harness := (true, "f9acede676797307d26bec205ac8400d42e6c302904bf2b896cb974ff8fd591c"), looks := true }, kinds := [], alts := [], laidByText := true, laidKinds := [.data, .data, .data, .data, .sentinel, .sentinel, .sentinel, .sentinel, .sentinel, .sentinel, .sentinel, .sentinel, .sentinel, .sentinel, .sentinel, .sentinel, .sentinel, .sentinel, .sentinel, .sentinel, .pinned], laidTests := true, laidLooks := .later }
def ConnTellsCardSaid : Prop := Claim7.holds Tryz.pinned (.plain (OpenSpec.ofChange connTellsSpec)) connTellsCard

/-- THE SECOND FORM's CARD OF 'parleylaw8.ConnData'. -/
def connDataUptoCard : Claim7 := { stood := { row := connDataUptoRow, standIns := [], harness := (true, "f9acede676797307d26bec205ac8400d42e6c302904bf2b896cb974ff8fd591c"), looks := true }, kinds := [], alts := [], laidByText := true, laidKinds := [.data, .data, .data, .data, .sentinel, .sentinel, .sentinel, .sentinel, .sentinel, .sentinel, .sentinel, .sentinel, .sentinel, .sentinel, .sentinel, .sentinel, .sentinel, .sentinel, .sentinel, .pinned], laidTests := true, laidLooks := .later }
def ConnDataUptoCardSaid : Prop := Claim7.holds Tryz.pinned (.plain (OpenSpec.upto connDataSpec)) connDataUptoCard

/-- THE SECOND FORM's CARD OF 'parleylaw8.ConnStreams'. -/
def connStreamsUptoCard : Claim7 := { stood := { row := connStreamsUptoRow, standIns := [], harness := (true, "f9acede676797307d26bec205ac8400d42e6c302904bf2b896cb974ff8fd591c"), looks := true }, kinds := [], alts := [], laidByText := true, laidKinds := [.data, .data, .data, .data, .sentinel, .sentinel, .sentinel, .sentinel, .sentinel, .sentinel, .sentinel, .sentinel, .sentinel, .sentinel, .sentinel, .sentinel, .sentinel, .sentinel, .sentinel, .pinned], laidTests := true, laidLooks := .later }
def ConnStreamsUptoCardSaid : Prop := Claim7.holds Tryz.pinned (.plain (OpenSpec.upto connStreamsSpec)) connStreamsUptoCard

/-- THE SECOND FORM's CARD OF 'parleylaw8.ConnLists'. -/
def connListsUptoCard : Claim7 := { stood := { row := connListsUptoRow, standIns := [], harness := (true, "f9acede676797307d26bec205ac8400d42e6c302904bf2b896cb974ff8fd591c"), looks := true }, kinds := [], alts := [], laidByText := true, laidKinds := [.data, .data, .data, .data, .sentinel, .sentinel, .sentinel, .sentinel, .sentinel, .sentinel, .sentinel, .sentinel, .sentinel, .sentinel, .sentinel, .sentinel, .sentinel, .sentinel, .sentinel, .pinned], laidTests := true, laidLooks := .later }
def ConnListsUptoCardSaid : Prop := Claim7.holds Tryz.pinned (.plain (OpenSpec.upto connListsSpec)) connListsUptoCard

/-- THE SECOND FORM's CARD OF 'parleylaw8.ConnGoAway'. -/
def connGoAwayUptoCard : Claim7 := { stood := { row := connGoAwayUptoRow, standIns := [], harness := (true, "f9acede676797307d26bec205ac8400d42e6c302904bf2b896cb974ff8fd591c"), looks := true }, kinds := [], alts := [], laidByText := true, laidKinds := [.data, .data, .data, .data, .sentinel, .sentinel, .sentinel, .sentinel, .sentinel, .sentinel, .sentinel, .sentinel, .sentinel, .sentinel, .sentinel, .sentinel, .sentinel, .sentinel, .sentinel, .pinned], laidTests := true, laidLooks := .later }
def ConnGoAwayUptoCardSaid : Prop := Claim7.holds Tryz.pinned (.plain (OpenSpec.upto connGoAwaySpec)) connGoAwayUptoCard

/-- THE SECOND FORM's CARD OF 'parleylaw8.ConnWindow'. -/
def connWindowUptoCard : Claim7 := { stood := { row := connWindowUptoRow, standIns := [], harness := (true, "f9acede676797307d26bec205ac8400d42e6c302904bf2b896cb974ff8fd591c"), looks := true }, kinds := [], alts := [], laidByText := true, laidKinds := [.data, .data, .data, .data, .sentinel, .sentinel, .sentinel, .sentinel, .sentinel, .sentinel, .sentinel, .sentinel, .sentinel, .sentinel, .sentinel, .sentinel, .sentinel, .sentinel, .sentinel, .sentinel, .pinned], laidTests := true, laidLooks := .later }
def ConnWindowUptoCardSaid : Prop := Claim7.holds Tryz.pinned (.plain (OpenSpec.upto connWindowSpec)) connWindowUptoCard

/-- THE SECOND FORM's CARD OF 'parleylaw8.ConnDead'. -/
def connDeadUptoCard : Claim7 := { stood := { row := connDeadUptoRow, standIns := [], harness := (true, "f9acede676797307d26bec205ac8400d42e6c302904bf2b896cb974ff8fd591c"), looks := true }, kinds := [], alts := [], laidByText := true, laidKinds := [.data, .data, .data, .data, .sentinel, .sentinel, .sentinel, .sentinel, .sentinel, .sentinel, .sentinel, .sentinel, .sentinel, .sentinel, .sentinel, .sentinel, .sentinel, .sentinel, .sentinel, .sentinel, .pinned], laidTests := true, laidLooks := .later }
def ConnDeadUptoCardSaid : Prop := Claim7.holds Tryz.pinned (.plain (OpenSpec.upto connDeadSpec)) connDeadUptoCard

/-- THE SECOND FORM's CARD OF 'parleylaw8.ConnTells'. -/
def connTellsUptoCard : Claim7 := { stood := { row := connTellsUptoRow, standIns := [], harness := (true, "f9acede676797307d26bec205ac8400d42e6c302904bf2b896cb974ff8fd591c"), looks := true }, kinds := [], alts := [], laidByText := true, laidKinds := [.data, .data, .data, .data, .sentinel, .sentinel, .sentinel, .sentinel, .sentinel, .sentinel, .sentinel, .sentinel, .sentinel, .sentinel, .sentinel, .sentinel, .sentinel, .sentinel, .sentinel, .sentinel, .pinned], laidTests := true, laidLooks := .later }
def ConnTellsUptoCardSaid : Prop := Claim7.holds Tryz.pinned (.plain (OpenSpec.upto connTellsSpec)) connTellsUptoCard
end Rows
end Go.Proofs.YtdkfbkjmhgbppaaGreatDoor
