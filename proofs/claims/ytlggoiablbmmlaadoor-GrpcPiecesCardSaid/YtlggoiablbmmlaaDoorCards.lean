/-
  DERIVED. GIVEN WITH THE SEED: THE CARDS: each row of YtlggoiablbmmlaaDoorRows.lean that lists a variable, with what it lists TIED to the program's text (the seventh form; the later family's looks); each row that meets fmt, with fmt's text TOLD by the authors' own Lean function (tested against real Go, not proved from fmt's source: count such statements apart). THE CARD IS WHAT COUNTS. Prove the row's statement (the work); the ties are given (YtlggoiablbmmlaaDoorTie.lean); close each card by the builder's one call (the guide's Derived/Test/ToyasCard.lean, 'card_holds'). Laid BY PROGRAM, IN A SANDBOX (cutbox-door.mjs). By AI agents, Wed Nov 11 2026. No macro, syntax, notation, axiom, sorry.
-/
import Derived.Test.YtlggoiablbmmlaaDoorRows
import GoSem.ClaimSeven
namespace Go.Proofs.YtlggoiablbmmlaaDoor
namespace Rows

/-- THE TIED CARD OF 'parleylaw16.GrpcPieces'. -/
def grpcPiecesCard : Claim7 := { stood := { row := grpcPiecesRow, standIns := [], harness := (true, "36f81182ddcf74211b627a2bf02295cf01bd4fae1b8c9b071adbd3b0f1e7c49d"), looks := true }, kinds := [], alts := [], laidByText := true, laidKinds := [.data, .data, .data, .data, .sentinel, .sentinel, .sentinel, .sentinel, .sentinel, .sentinel, .pinned], laidTests := true, laidLooks := .later }
def GrpcPiecesCardSaid : Prop := Claim7.holds Tryd.pinned (.plain (OpenSpec.ofChange grpcPiecesSpec)) grpcPiecesCard

/-- THE TIED CARD OF 'parleylaw16.GrpcOwn'. -/
def grpcOwnCard : Claim7 := { stood := { row := grpcOwnRow, standIns := [], harness := (true, "36f81182ddcf74211b627a2bf02295cf01bd4fae1b8c9b071adbd3b0f1e7c49d"), looks := true }, kinds := [], alts := [], laidByText := true, laidKinds := [.data, .data, .data, .data, .sentinel, .sentinel, .sentinel, .sentinel, .sentinel, .sentinel, .pinned], laidTests := true, laidLooks := .later }
def GrpcOwnCardSaid : Prop := Claim7.holds Tryd.pinned (.plain (OpenSpec.ofChange grpcOwnSpec)) grpcOwnCard

/-- THE TIED CARD OF 'parleylaw16.GrpcCodes'. -/
def grpcCodesCard : Claim7 := { stood := { row := grpcCodesRow, standIns := [], harness := (true, "36f81182ddcf74211b627a2bf02295cf01bd4fae1b8c9b071adbd3b0f1e7c49d"), looks := true }, kinds := [], alts := [], laidByText := true, laidKinds := [.data, .data, .data, .data, .sentinel, .sentinel, .sentinel, .sentinel, .sentinel, .sentinel, .pinned], laidTests := true, laidLooks := .later }
def GrpcCodesCardSaid : Prop := Claim7.holds Tryd.pinned (.plain (OpenSpec.ofChange grpcCodesSpec)) grpcCodesCard

/-- THE TIED CARD OF 'parleylaw16.GrpcTexts'. -/
def grpcTextsCard : Claim7 := { stood := { row := grpcTextsRow, standIns := [], harness := (true, "36f81182ddcf74211b627a2bf02295cf01bd4fae1b8c9b071adbd3b0f1e7c49d"), looks := true }, kinds := [], alts := [], laidByText := true, laidKinds := [.data, .data, .data, .data, .sentinel, .sentinel, .sentinel, .sentinel, .sentinel, .sentinel, .pinned], laidTests := true, laidLooks := .later }
def GrpcTextsCardSaid : Prop := Claim7.holds Tryd.pinned (.plain (OpenSpec.ofChange grpcTextsSpec)) grpcTextsCard

/-- THE SECOND FORM's CARD OF 'parleylaw16.GrpcPieces'. -/
def grpcPiecesUptoCard : Claim7 := { stood := { row := grpcPiecesUptoRow, standIns := [], harness := (true, "36f81182ddcf74211b627a2bf02295cf01bd4fae1b8c9b071adbd3b0f1e7c49d"), looks := true }, kinds := [], alts := [], laidByText := true, laidKinds := [.data, .data, .data, .data, .sentinel, .sentinel, .sentinel, .sentinel, .sentinel, .sentinel, .pinned], laidTests := true, laidLooks := .later }
def GrpcPiecesUptoCardSaid : Prop := Claim7.holds Tryd.pinned (.plain (OpenSpec.upto grpcPiecesSpec)) grpcPiecesUptoCard

/-- THE SECOND FORM's CARD OF 'parleylaw16.GrpcOwn'. -/
def grpcOwnUptoCard : Claim7 := { stood := { row := grpcOwnUptoRow, standIns := [], harness := (true, "36f81182ddcf74211b627a2bf02295cf01bd4fae1b8c9b071adbd3b0f1e7c49d"), looks := true }, kinds := [], alts := [], laidByText := true, laidKinds := [.data, .data, .data, .data, .sentinel, .sentinel, .sentinel, .sentinel, .sentinel, .sentinel, .pinned], laidTests := true, laidLooks := .later }
def GrpcOwnUptoCardSaid : Prop := Claim7.holds Tryd.pinned (.plain (OpenSpec.upto grpcOwnSpec)) grpcOwnUptoCard

/-- THE SECOND FORM's CARD OF 'parleylaw16.GrpcCodes'. -/
def grpcCodesUptoCard : Claim7 := { stood := { row := grpcCodesUptoRow, standIns := [], harness := (true, "36f81182ddcf74211b627a2bf02295cf01bd4fae1b8c9b071adbd3b0f1e7c49d"), looks := true }, kinds := [], alts := [], laidByText := true, laidKinds := [.data, .data, .data, .data, .sentinel, .sentinel, .sentinel, .sentinel, .sentinel, .sentinel, .pinned], laidTests := true, laidLooks := .later }
def GrpcCodesUptoCardSaid : Prop := Claim7.holds Tryd.pinned (.plain (OpenSpec.upto grpcCodesSpec)) grpcCodesUptoCard

/-- THE SECOND FORM's CARD OF 'parleylaw16.GrpcTexts'. -/
def grpcTextsUptoCard : Claim7 := { stood := { row := grpcTextsUptoRow, standIns := [], harness := (true, "36f81182ddcf74211b627a2bf02295cf01bd4fae1b8c9b071adbd3b0f1e7c49d"), looks := true }, kinds := [], alts := [], laidByText := true, laidKinds := [.data, .data, .data, .data, .sentinel, .sentinel, .sentinel, .sentinel, .sentinel, .sentinel, .pinned], laidTests := true, laidLooks := .later }
def GrpcTextsUptoCardSaid : Prop := Claim7.holds Tryd.pinned (.plain (OpenSpec.upto grpcTextsSpec)) grpcTextsUptoCard
end Rows
end Go.Proofs.YtlggoiablbmmlaaDoor
