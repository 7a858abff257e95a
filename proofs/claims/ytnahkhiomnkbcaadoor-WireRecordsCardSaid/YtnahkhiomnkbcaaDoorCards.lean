/-
  DERIVED. GIVEN WITH THE SEED: THE CARDS: each row of YtnahkhiomnkbcaaDoorRows.lean that lists a variable, with what it lists TIED to the program's text (the seventh form; the later family's looks); each row that meets fmt, with fmt's text TOLD by the authors' own Lean function (tested against real Go, not proved from fmt's source: count such statements apart). THE CARD IS WHAT COUNTS. Prove the row's statement (the work); the ties are given (YtnahkhiomnkbcaaDoorTie.lean); close each card by the builder's one call (the guide's Derived/Test/ToyasCard.lean, 'card_holds'). Laid BY PROGRAM, IN A SANDBOX (cutbox-door.mjs). By AI agents, Wed Nov 11 2026. No macro, syntax, notation, axiom, sorry.
-/
import Derived.Test.YtnahkhiomnkbcaaDoorRows
import GoSem.ClaimSeven
namespace Go.Proofs.YtnahkhiomnkbcaaDoor
namespace Rows

/-- THE TIED CARD OF 'parleylaw1.WireDeep'. -/
def wireDeepCard : Claim7 := { stood := { row := wireDeepRow, standIns := [], harness := (true, "560d18121800718103b9681bd8461bfcffb14ffbe37d7de8bb0636793f19a49e"), looks := false }, kinds := [], alts := [], laidByText := true, laidKinds := [.sentinel, .sentinel, .sentinel, .sentinel, .sentinel, .sentinel], laidTests := true, laidLooks := .later }
def WireDeepCardSaid : Prop := Claim7.holds Tryd.pinned (.plain (OpenSpec.ofChange wireDeepSpec)) wireDeepCard

/-- THE TIED CARD OF 'parleylaw1.WireRecords'. -/
def wireRecordsCard : Claim7 := { stood := { row := wireRecordsRow, standIns := [], harness := (true, "560d18121800718103b9681bd8461bfcffb14ffbe37d7de8bb0636793f19a49e"), looks := false }, kinds := [], alts := [], laidByText := true, laidKinds := [.sentinel, .sentinel, .sentinel, .sentinel, .sentinel, .sentinel], laidTests := true, laidLooks := .later }
def WireRecordsCardSaid : Prop := Claim7.holds Tryd.pinned (.plain (OpenSpec.ofChange wireRecordsSpec)) wireRecordsCard

/-- THE TIED CARD OF 'parleylaw1.WireOwn'. -/
def wireOwnCard : Claim7 := { stood := { row := wireOwnRow, standIns := [], harness := (true, "560d18121800718103b9681bd8461bfcffb14ffbe37d7de8bb0636793f19a49e"), looks := false }, kinds := [], alts := [], laidByText := true, laidKinds := [.sentinel, .sentinel, .sentinel, .sentinel, .sentinel, .sentinel], laidTests := true, laidLooks := .later }
def WireOwnCardSaid : Prop := Claim7.holds Tryd.pinned (.plain (OpenSpec.ofChange wireOwnSpec)) wireOwnCard

/-- THE TIED CARD OF 'parleylaw1.WireAgain'. -/
def wireAgainCard : Claim7 := { stood := { row := wireAgainRow, standIns := [], harness := (true, "560d18121800718103b9681bd8461bfcffb14ffbe37d7de8bb0636793f19a49e"), looks := false }, kinds := [], alts := [], laidByText := true, laidKinds := [.sentinel, .sentinel, .sentinel, .sentinel, .sentinel, .sentinel], laidTests := true, laidLooks := .later }
def WireAgainCardSaid : Prop := Claim7.holds Tryd.pinned (.plain (OpenSpec.ofChange wireAgainSpec)) wireAgainCard

/-- THE TIED CARD OF 'parleylaw1.WireBack'. -/
def wireBackCard : Claim7 := { stood := { row := wireBackRow, standIns := [], harness := (true, "560d18121800718103b9681bd8461bfcffb14ffbe37d7de8bb0636793f19a49e"), looks := false }, kinds := [], alts := [], laidByText := true, laidKinds := [.sentinel, .sentinel, .sentinel, .sentinel, .sentinel, .sentinel], laidTests := true, laidLooks := .later }
def WireBackCardSaid : Prop := Claim7.holds Tryd.pinned (.plain (OpenSpec.ofChange wireBackSpec)) wireBackCard

/-- THE TIED CARD OF 'parleylaw1.WireTexts'. -/
def wireTextsCard : Claim7 := { stood := { row := wireTextsRow, standIns := [], harness := (true, "560d18121800718103b9681bd8461bfcffb14ffbe37d7de8bb0636793f19a49e"), looks := false }, kinds := [], alts := [], laidByText := true, laidKinds := [.data, .sentinel, .sentinel, .sentinel, .sentinel, .sentinel, .sentinel, .pinned], laidTests := true, laidLooks := .later }
def WireTextsCardSaid : Prop := Claim7.holds Tryd.pinned (.plain (OpenSpec.ofChange wireTextsSpec)) wireTextsCard

/-- THE SECOND FORM's CARD OF 'parleylaw1.WireDeep'. -/
def wireDeepUptoCard : Claim7 := { stood := { row := wireDeepUptoRow, standIns := [], harness := (true, "560d18121800718103b9681bd8461bfcffb14ffbe37d7de8bb0636793f19a49e"), looks := false }, kinds := [], alts := [], laidByText := true, laidKinds := [.sentinel, .sentinel, .sentinel, .sentinel, .sentinel, .sentinel], laidTests := true, laidLooks := .later }
def WireDeepUptoCardSaid : Prop := Claim7.holds Tryd.pinned (.plain (OpenSpec.upto wireDeepSpec)) wireDeepUptoCard

/-- THE SECOND FORM's CARD OF 'parleylaw1.WireRecords'. -/
def wireRecordsUptoCard : Claim7 := { stood := { row := wireRecordsUptoRow, standIns := [], harness := (true, "560d18121800718103b9681bd8461bfcffb14ffbe37d7de8bb0636793f19a49e"), looks := false }, kinds := [], alts := [], laidByText := true, laidKinds := [.sentinel, .sentinel, .sentinel, .sentinel, .sentinel, .sentinel], laidTests := true, laidLooks := .later }
def WireRecordsUptoCardSaid : Prop := Claim7.holds Tryd.pinned (.plain (OpenSpec.upto wireRecordsSpec)) wireRecordsUptoCard

/-- THE SECOND FORM's CARD OF 'parleylaw1.WireOwn'. -/
def wireOwnUptoCard : Claim7 := { stood := { row := wireOwnUptoRow, standIns := [], harness := (true, "560d18121800718103b9681bd8461bfcffb14ffbe37d7de8bb0636793f19a49e"), looks := false }, kinds := [], alts := [], laidByText := true, laidKinds := [.sentinel, .sentinel, .sentinel, .sentinel, .sentinel, .sentinel], laidTests := true, laidLooks := .later }
def WireOwnUptoCardSaid : Prop := Claim7.holds Tryd.pinned (.plain (OpenSpec.upto wireOwnSpec)) wireOwnUptoCard

/-- THE SECOND FORM's CARD OF 'parleylaw1.WireAgain'. -/
def wireAgainUptoCard : Claim7 := { stood := { row := wireAgainUptoRow, standIns := [], harness := (true, "560d18121800718103b9681bd8461bfcffb14ffbe37d7de8bb0636793f19a49e"), looks := false }, kinds := [], alts := [], laidByText := true, laidKinds := [.sentinel, .sentinel, .sentinel, .sentinel, .sentinel, .sentinel], laidTests := true, laidLooks := .later }
def WireAgainUptoCardSaid : Prop := Claim7.holds Tryd.pinned (.plain (OpenSpec.upto wireAgainSpec)) wireAgainUptoCard

/-- THE SECOND FORM's CARD OF 'parleylaw1.WireBack'. -/
def wireBackUptoCard : Claim7 := { stood := { row := wireBackUptoRow, standIns := [], harness := (true, "560d18121800718103b9681bd8461bfcffb14ffbe37d7de8bb0636793f19a49e"), looks := false }, kinds := [], alts := [], laidByText := true, laidKinds := [.sentinel, .sentinel, .sentinel, .sentinel, .sentinel, .sentinel], laidTests := true, laidLooks := .later }
def WireBackUptoCardSaid : Prop := Claim7.holds Tryd.pinned (.plain (OpenSpec.upto wireBackSpec)) wireBackUptoCard

/-- THE SECOND FORM's CARD OF 'parleylaw1.WireTexts'. -/
def wireTextsUptoCard : Claim7 := { stood := { row := wireTextsUptoRow, standIns := [], harness := (true, "560d18121800718103b9681bd8461bfcffb14ffbe37d7de8bb0636793f19a49e"), looks := false }, kinds := [], alts := [], laidByText := true, laidKinds := [.data, .sentinel, .sentinel, .sentinel, .sentinel, .sentinel, .sentinel, .pinned], laidTests := true, laidLooks := .later }
def WireTextsUptoCardSaid : Prop := Claim7.holds Tryd.pinned (.plain (OpenSpec.upto wireTextsSpec)) wireTextsUptoCard
end Rows
end Go.Proofs.YtnahkhiomnkbcaaDoor
