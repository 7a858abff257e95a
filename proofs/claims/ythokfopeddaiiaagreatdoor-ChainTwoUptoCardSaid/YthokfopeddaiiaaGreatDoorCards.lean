/-
  DERIVED. GIVEN WITH THE SEED: THE CARDS: each row of YthokfopeddaiiaaGreatDoorRows.lean that lists a variable, with what it lists TIED to the program's text (the seventh form; the later family's looks); each row that meets fmt, with fmt's text TOLD by the authors' own Lean function (tested against real Go, not proved from fmt's source: count such statements apart). THE CARD IS WHAT COUNTS. Prove the row's statement (the work); the ties are given (YthokfopeddaiiaaGreatDoorTie.lean); close each card by the builder's one call (the guide's Derived/Test/ToyasCard.lean, 'card_holds'). Laid BY PROGRAM, IN A SANDBOX (cutbox-door.mjs). By AI agents, Wed Nov 11 2026. No macro, syntax, notation, axiom, sorry.
-/
import Derived.Test.YthokfopeddaiiaaGreatDoorRows
import GoSem.ClaimSeven
namespace Go.Proofs.YthokfopeddaiiaaGreatDoor
namespace Rows

/-- THE TIED CARD OF 'parleylaw27.ChainTwo'. -/
def chainTwoCard : Claim7 := { stood := { row := chainTwoRow, standIns := [], harness := (true, "a0f954364b88784926d155dd5908494987200cdef371bc237a9b197551c153a5"), looks := false }, kinds := [], alts := [], laidByText := true, laidKinds := [.data, .data, .data, .sentinel], laidTests := true, laidLooks := .later }
def ChainTwoCardSaid : Prop := Claim7.holds Tryz.pinned (.plain (OpenSpec.ofChange chainTwoSpec)) chainTwoCard

/-- THE TIED CARD OF 'parleylaw27.ChainOrder'. -/
def chainOrderCard : Claim7 := { stood := { row := chainOrderRow, standIns := [], harness := (true, "a0f954364b88784926d155dd5908494987200cdef371bc237a9b197551c153a5"), looks := false }, kinds := [], alts := [], laidByText := true, laidKinds := [.data, .data, .data, .sentinel], laidTests := true, laidLooks := .later }
def ChainOrderCardSaid : Prop := Claim7.holds Tryz.pinned (.plain (OpenSpec.ofChange chainOrderSpec)) chainOrderCard

/-- THE TIED CARD OF 'parleylaw27.ChainTimes'. -/
def chainTimesCard : Claim7 := { stood := { row := chainTimesRow, standIns := [], harness := (true, "a0f954364b88784926d155dd5908494987200cdef371bc237a9b197551c153a5"), looks := false }, kinds := [], alts := [], laidByText := true, laidKinds := [.data, .data, .data, .sentinel], laidTests := true, laidLooks := .later }
def ChainTimesCardSaid : Prop := Claim7.holds Tryz.pinned (.plain (OpenSpec.ofChange chainTimesSpec)) chainTimesCard

/-- THE TIED CARD OF 'parleylaw27.ChainWraps'. -/
def chainWrapsCard : Claim7 := { stood := { row := chainWrapsRow, standIns := [], harness := (true, "a0f954364b88784926d155dd5908494987200cdef371bc237a9b197551c153a5"), looks := false }, kinds := [], alts := [], laidByText := true, laidKinds := [.data, .data, .data, .sentinel], laidTests := true, laidLooks := .later }
def ChainWrapsCardSaid : Prop := Claim7.holds Tryz.pinned (.plain (OpenSpec.ofChange chainWrapsSpec)) chainWrapsCard

/-- THE TIED CARD OF 'parleylaw27.ChainTogether'. -/
def chainTogetherCard : Claim7 := { stood := { row := chainTogetherRow, standIns := [], harness := (true, "a0f954364b88784926d155dd5908494987200cdef371bc237a9b197551c153a5"), looks := false }, kinds := [], alts := [], laidByText := true, laidKinds := [.data, .data, .data, .sentinel], laidTests := true, laidLooks := .later }
def ChainTogetherCardSaid : Prop := Claim7.holds Tryz.pinned (.plain (OpenSpec.ofChange chainTogetherSpec)) chainTogetherCard

/-- THE SECOND FORM's CARD OF 'parleylaw27.ChainTwo'. -/
def chainTwoUptoCard : Claim7 := { stood := { row := chainTwoUptoRow, standIns := [], harness := (true, "a0f954364b88784926d155dd5908494987200cdef371bc237a9b197551c153a5"), looks := false }, kinds := [], alts := [], laidByText := true, laidKinds := [.data, .data, .data, .sentinel], laidTests := true, laidLooks := .later }
def ChainTwoUptoCardSaid : Prop := Claim7.holds Tryz.pinned (.plain (OpenSpec.upto chainTwoSpec)) chainTwoUptoCard

/-- THE SECOND FORM's CARD OF 'parleylaw27.ChainOrder'. -/
def chainOrderUptoCard : Claim7 := { stood := { row := chainOrderUptoRow, standIns := [], harness := (true, "a0f954364b88784926d155dd5908494987200cdef371bc237a9b197551c153a5"), looks := false }, kinds := [], alts := [], laidByText := true, laidKinds := [.data, .data, .data, .sentinel], laidTests := true, laidLooks := .later }
def ChainOrderUptoCardSaid : Prop := Claim7.holds Tryz.pinned (.plain (OpenSpec.upto chainOrderSpec)) chainOrderUptoCard

/-- THE SECOND FORM's CARD OF 'parleylaw27.ChainTimes'. -/
def chainTimesUptoCard : Claim7 := { stood := { row := chainTimesUptoRow, standIns := [], harness := (true, "a0f954364b88784926d155dd5908494987200cdef371bc237a9b197551c153a5"), looks := false }, kinds := [], alts := [], laidByText := true, laidKinds := [.data, .data, .data, .sentinel], laidTests := true, laidLooks := .later }
def ChainTimesUptoCardSaid : Prop := Claim7.holds Tryz.pinned (.plain (OpenSpec.upto chainTimesSpec)) chainTimesUptoCard

/-- THE SECOND FORM's CARD OF 'parleylaw27.ChainWraps'. -/
def chainWrapsUptoCard : Claim7 := { stood := { row := chainWrapsUptoRow, standIns := [], harness := (true, "a0f954364b88784926d155dd5908494987200cdef371bc237a9b197551c153a5"), looks := false }, kinds := [], alts := [], laidByText := true, laidKinds := [.data, .data, .data, .sentinel], laidTests := true, laidLooks := .later }
def ChainWrapsUptoCardSaid : Prop := Claim7.holds Tryz.pinned (.plain (OpenSpec.upto chainWrapsSpec)) chainWrapsUptoCard

/-- THE SECOND FORM's CARD OF 'parleylaw27.ChainTogether'. -/
def chainTogetherUptoCard : Claim7 := { stood := { row := chainTogetherUptoRow, standIns := [], harness := (true, "a0f954364b88784926d155dd5908494987200cdef371bc237a9b197551c153a5"), looks := false }, kinds := [], alts := [], laidByText := true, laidKinds := [.data, .data, .data, .sentinel], laidTests := true, laidLooks := .later }
def ChainTogetherUptoCardSaid : Prop := Claim7.holds Tryz.pinned (.plain (OpenSpec.upto chainTogetherSpec)) chainTogetherUptoCard
end Rows
end Go.Proofs.YthokfopeddaiiaaGreatDoor
