/-
  NARROWER THAN 'FOR EVERY INPUT', by the rows' own cells (each row's printed sentence says how): WireDeep: laid · WireRecords: laid · WireOwn: laid · WireAgain: laid · WireBack: laid · WireTexts: laid.
  DERIVED. THE GIVEN ROWS OF THIS SEAT. 6 by the template 'for every input the law returns true; each argument reads behind the call as it read before'; 0 by the template 'total and deterministic' (their statements: YtnahkhiomnkbcaaDoorTotals.lean).
  GIVEN WITH THE SEED: the statements are not yours to turn. If you find one false, say at which input.
  Laid BY PROGRAM, IN A SANDBOX (cutbox-rows.mjs): the forced cells as the released guide's own fill.sh prints them over the translation 0f51cfebd1f5ab7a… (all of the seat's roots in one cut). By AI agents, Wed Nov 11 2026. No macro, syntax, notation, axiom, sorry.
-/
import Derived.Test.YtnahkhiomnkbcaaDoorChecked
import GoSem.PinnedTables
import GoSem.Claim
import GoSem.ClaimJoined
import GoSem.ClaimMapViews
import Derived.JoinedTies
import Derived.KernelRfl
namespace Go.Proofs.YtnahkhiomnkbcaaDoor
/- THE CELL 'sum', in the pinned program and in every row, IS THE sha256 OF THE DUMP (.gsa) THAT YtnahkhiomnkbcaaDoorProg.lean LOADS. Nothing in Lean hashes anything: it is a label: what it is worth is what the hold of that sum in a sandbox is worth. -/
noncomputable def Tryd.pinned : Pinned := { name := "ytnahkhiomnkbcaadoor", sum := "0f51cfebd1f5ab7af450ec2d48297daabd901defde6ef9111c3a9da8e308706c", checked := Tryd.checked }
namespace Rows
def none {H : Type} : Left H := { results := [], args := [] }

/- WHAT THE LISTED PACKAGE-LEVEL VARIABLES READ AS WHEN THE CALL BEGINS. Each datum BY PROGRAM (the guide's laid-datum.mjs) off the statement by which the dump's own 'gosem.cut.vars' lays the variable. In a bare row this is a premise. The card (YtnahkhiomnkbcaaDoorCards.lean) ties it to the program's text. -/
def laid_parley_api_ErrEnd {H : Type} : DataW H := .iface "*errors.errorString" (.ptr (.agg [.lit (.string [105, 116, 32, 101, 110, 100, 115, 32, 116, 111, 111, 32, 101, 97, 114, 108, 121])]))
def laid_parley_api_ErrLong {H : Type} : DataW H := .iface "*errors.errorString" (.ptr (.agg [.lit (.string [116, 111, 111, 32, 108, 111, 110, 103])]))
def laid_parley_api_ErrTag {H : Type} : DataW H := .iface "*errors.errorString" (.ptr (.agg [.lit (.string [110, 111, 32, 116, 97, 103])]))
def laid_parley_api_ErrGroup {H : Type} : DataW H := .iface "*errors.errorString" (.ptr (.agg [.lit (.string [110, 111, 32, 115, 117, 99, 104, 32, 103, 114, 111, 117, 112])]))
def laid_parley_api_ErrDeep {H : Type} : DataW H := .iface "*errors.errorString" (.ptr (.agg [.lit (.string [116, 111, 111, 32, 100, 101, 101, 112])]))
def laid_parley_api_ErrNumber {H : Type} : DataW H := .iface "*errors.errorString" (.ptr (.agg [.lit (.string [110, 111, 32, 115, 117, 99, 104, 32, 110, 117, 109, 98, 101, 114])]))
def laid_unicode_utf8_acceptRanges {H : Type} : DataW H := .agg [.agg [.lit (.int .u8 128), .lit (.int .u8 191)], .agg [.lit (.int .u8 160), .lit (.int .u8 191)], .agg [.lit (.int .u8 128), .lit (.int .u8 159)], .agg [.lit (.int .u8 144), .lit (.int .u8 191)], .agg [.lit (.int .u8 128), .lit (.int .u8 143)], .agg [.lit (.int .u8 0), .lit (.int .u8 0)], .agg [.lit (.int .u8 0), .lit (.int .u8 0)], .agg [.lit (.int .u8 0), .lit (.int .u8 0)], .agg [.lit (.int .u8 0), .lit (.int .u8 0)], .agg [.lit (.int .u8 0), .lit (.int .u8 0)], .agg [.lit (.int .u8 0), .lit (.int .u8 0)], .agg [.lit (.int .u8 0), .lit (.int .u8 0)], .agg [.lit (.int .u8 0), .lit (.int .u8 0)], .agg [.lit (.int .u8 0), .lit (.int .u8 0)], .agg [.lit (.int .u8 0), .lit (.int .u8 0)], .agg [.lit (.int .u8 0), .lit (.int .u8 0)]]
/-- One of Go's own tables, pinned by name: the form's constant. -/
def laid_unicode_utf8_first : DataW Unit := Go.Pinned.utf8First

/-- 'parleylaw1.WireDeep': WHATEVER THE INPUT: true; the input reads as it did. -/
def wireDeepSpec : ChangeSpec := { name := "wireDeep", fn := fun _ => fun
  | [d1, d2] => { results := [.lit (.bool true)], args := [d1, d2] }
  | _ => none }
def wireDeepRow : OpenClaim := { program := "ytnahkhiomnkbcaadoor", sum := "0f51cfebd1f5ab7af450ec2d48297daabd901defde6ef9111c3a9da8e308706c", func := "parley/parleylaw1.WireDeep", spec := "wireDeep", unfollowed := true, recurses := true, named := ["parley/api.ErrLong", "parley/api.ErrEnd", "parley/api.ErrGroup", "parley/api.ErrTag", "parley/api.ErrNumber", "parley/api.ErrDeep"], apart := false, laid := [("parley/api.ErrEnd", laid_parley_api_ErrEnd), ("parley/api.ErrLong", laid_parley_api_ErrLong), ("parley/api.ErrTag", laid_parley_api_ErrTag), ("parley/api.ErrGroup", laid_parley_api_ErrGroup), ("parley/api.ErrDeep", laid_parley_api_ErrDeep), ("parley/api.ErrNumber", laid_parley_api_ErrNumber)] }
def WireDeepSaid : Prop := wireDeepRow.holds Tryd.pinned (OpenSpec.ofChange wireDeepSpec)

/-- ITS FALSE NEIGHBOUR: 'it returns false'. Refute it at one input. -/
def wireDeepWrong : ChangeSpec := { name := "wireDeep", fn := fun _ => fun
  | [d1, d2] => { results := [.lit (.bool false)], args := [d1, d2] }
  | _ => none }
def WireDeepWrongFalsely : Prop := wireDeepRow.holds Tryd.pinned (OpenSpec.ofChange wireDeepWrong)

/-- 'parleylaw1.WireRecords': WHATEVER THE INPUT: true; the input reads as it did. -/
def wireRecordsSpec : ChangeSpec := { name := "wireRecords", fn := fun _ => fun
  | [d1, d2] => { results := [.lit (.bool true)], args := [d1, d2] }
  | _ => none }
def wireRecordsRow : OpenClaim := { program := "ytnahkhiomnkbcaadoor", sum := "0f51cfebd1f5ab7af450ec2d48297daabd901defde6ef9111c3a9da8e308706c", func := "parley/parleylaw1.WireRecords", spec := "wireRecords", unfollowed := true, recurses := true, named := ["parley/api.ErrLong", "parley/api.ErrEnd", "parley/api.ErrGroup", "parley/api.ErrTag", "parley/api.ErrNumber", "parley/api.ErrDeep"], apart := false, laid := [("parley/api.ErrEnd", laid_parley_api_ErrEnd), ("parley/api.ErrLong", laid_parley_api_ErrLong), ("parley/api.ErrTag", laid_parley_api_ErrTag), ("parley/api.ErrGroup", laid_parley_api_ErrGroup), ("parley/api.ErrDeep", laid_parley_api_ErrDeep), ("parley/api.ErrNumber", laid_parley_api_ErrNumber)] }
def WireRecordsSaid : Prop := wireRecordsRow.holds Tryd.pinned (OpenSpec.ofChange wireRecordsSpec)

/-- ITS FALSE NEIGHBOUR: 'it returns false'. Refute it at one input. -/
def wireRecordsWrong : ChangeSpec := { name := "wireRecords", fn := fun _ => fun
  | [d1, d2] => { results := [.lit (.bool false)], args := [d1, d2] }
  | _ => none }
def WireRecordsWrongFalsely : Prop := wireRecordsRow.holds Tryd.pinned (OpenSpec.ofChange wireRecordsWrong)

/-- 'parleylaw1.WireOwn': WHATEVER THE INPUT: true; the input reads as it did. -/
def wireOwnSpec : ChangeSpec := { name := "wireOwn", fn := fun _ => fun
  | [d1, d2] => { results := [.lit (.bool true)], args := [d1, d2] }
  | _ => none }
def wireOwnRow : OpenClaim := { program := "ytnahkhiomnkbcaadoor", sum := "0f51cfebd1f5ab7af450ec2d48297daabd901defde6ef9111c3a9da8e308706c", func := "parley/parleylaw1.WireOwn", spec := "wireOwn", unfollowed := true, recurses := true, named := ["parley/api.ErrLong", "parley/api.ErrEnd", "parley/api.ErrGroup", "parley/api.ErrTag", "parley/api.ErrNumber", "parley/api.ErrDeep"], apart := false, laid := [("parley/api.ErrEnd", laid_parley_api_ErrEnd), ("parley/api.ErrLong", laid_parley_api_ErrLong), ("parley/api.ErrTag", laid_parley_api_ErrTag), ("parley/api.ErrGroup", laid_parley_api_ErrGroup), ("parley/api.ErrDeep", laid_parley_api_ErrDeep), ("parley/api.ErrNumber", laid_parley_api_ErrNumber)] }
def WireOwnSaid : Prop := wireOwnRow.holds Tryd.pinned (OpenSpec.ofChange wireOwnSpec)

/-- ITS FALSE NEIGHBOUR: 'it returns false'. Refute it at one input. -/
def wireOwnWrong : ChangeSpec := { name := "wireOwn", fn := fun _ => fun
  | [d1, d2] => { results := [.lit (.bool false)], args := [d1, d2] }
  | _ => none }
def WireOwnWrongFalsely : Prop := wireOwnRow.holds Tryd.pinned (OpenSpec.ofChange wireOwnWrong)

/-- 'parleylaw1.WireAgain': WHATEVER THE INPUT: true; the input reads as it did. -/
def wireAgainSpec : ChangeSpec := { name := "wireAgain", fn := fun _ => fun
  | [d1, d2] => { results := [.lit (.bool true)], args := [d1, d2] }
  | _ => none }
def wireAgainRow : OpenClaim := { program := "ytnahkhiomnkbcaadoor", sum := "0f51cfebd1f5ab7af450ec2d48297daabd901defde6ef9111c3a9da8e308706c", func := "parley/parleylaw1.WireAgain", spec := "wireAgain", unfollowed := true, recurses := true, named := ["parley/api.ErrLong", "parley/api.ErrEnd", "parley/api.ErrGroup", "parley/api.ErrTag", "parley/api.ErrNumber", "parley/api.ErrDeep"], apart := false, laid := [("parley/api.ErrEnd", laid_parley_api_ErrEnd), ("parley/api.ErrLong", laid_parley_api_ErrLong), ("parley/api.ErrTag", laid_parley_api_ErrTag), ("parley/api.ErrGroup", laid_parley_api_ErrGroup), ("parley/api.ErrDeep", laid_parley_api_ErrDeep), ("parley/api.ErrNumber", laid_parley_api_ErrNumber)] }
def WireAgainSaid : Prop := wireAgainRow.holds Tryd.pinned (OpenSpec.ofChange wireAgainSpec)

/-- ITS FALSE NEIGHBOUR: 'it returns false'. Refute it at one input. -/
def wireAgainWrong : ChangeSpec := { name := "wireAgain", fn := fun _ => fun
  | [d1, d2] => { results := [.lit (.bool false)], args := [d1, d2] }
  | _ => none }
def WireAgainWrongFalsely : Prop := wireAgainRow.holds Tryd.pinned (OpenSpec.ofChange wireAgainWrong)

/-- 'parleylaw1.WireBack': WHATEVER THE INPUT: true; the input reads as it did. -/
def wireBackSpec : ChangeSpec := { name := "wireBack", fn := fun _ => fun
  | [d1, d2, d3, d4, d5, d6] => { results := [.lit (.bool true)], args := [d1, d2, d3, d4, d5, d6] }
  | _ => none }
def wireBackRow : OpenClaim := { program := "ytnahkhiomnkbcaadoor", sum := "0f51cfebd1f5ab7af450ec2d48297daabd901defde6ef9111c3a9da8e308706c", func := "parley/parleylaw1.WireBack", spec := "wireBack", unfollowed := true, recurses := true, named := ["parley/api.ErrLong", "parley/api.ErrEnd", "parley/api.ErrGroup", "parley/api.ErrTag", "parley/api.ErrNumber", "parley/api.ErrDeep"], apart := false, laid := [("parley/api.ErrEnd", laid_parley_api_ErrEnd), ("parley/api.ErrLong", laid_parley_api_ErrLong), ("parley/api.ErrTag", laid_parley_api_ErrTag), ("parley/api.ErrGroup", laid_parley_api_ErrGroup), ("parley/api.ErrDeep", laid_parley_api_ErrDeep), ("parley/api.ErrNumber", laid_parley_api_ErrNumber)] }
def WireBackSaid : Prop := wireBackRow.holds Tryd.pinned (OpenSpec.ofChange wireBackSpec)

/-- ITS FALSE NEIGHBOUR: 'it returns false'. Refute it at one input. -/
def wireBackWrong : ChangeSpec := { name := "wireBack", fn := fun _ => fun
  | [d1, d2, d3, d4, d5, d6] => { results := [.lit (.bool false)], args := [d1, d2, d3, d4, d5, d6] }
  | _ => none }
def WireBackWrongFalsely : Prop := wireBackRow.holds Tryd.pinned (OpenSpec.ofChange wireBackWrong)

/-- 'parleylaw1.WireTexts': WHATEVER THE INPUT: true; the input reads as it did. -/
def wireTextsSpec : ChangeSpec := { name := "wireTexts", fn := fun _ => fun
  | [d1, d2] => { results := [.lit (.bool true)], args := [d1, d2] }
  | _ => none }
def wireTextsRow : OpenClaim := { program := "ytnahkhiomnkbcaadoor", sum := "0f51cfebd1f5ab7af450ec2d48297daabd901defde6ef9111c3a9da8e308706c", func := "parley/parleylaw1.WireTexts", spec := "wireTexts", unfollowed := true, recurses := true, named := ["parley/api.ErrLong", "parley/api.ErrEnd", "parley/api.ErrGroup", "parley/api.ErrTag", "parley/api.ErrNumber", "parley/api.ErrDeep", "unicode/utf8.first", "unicode/utf8.acceptRanges"], apart := false, laid := [("unicode/utf8.acceptRanges", laid_unicode_utf8_acceptRanges), ("parley/api.ErrEnd", laid_parley_api_ErrEnd), ("parley/api.ErrLong", laid_parley_api_ErrLong), ("parley/api.ErrTag", laid_parley_api_ErrTag), ("parley/api.ErrGroup", laid_parley_api_ErrGroup), ("parley/api.ErrDeep", laid_parley_api_ErrDeep), ("parley/api.ErrNumber", laid_parley_api_ErrNumber), ("unicode/utf8.first", laid_unicode_utf8_first)] }
def WireTextsSaid : Prop := wireTextsRow.holds Tryd.pinned (OpenSpec.ofChange wireTextsSpec)

/-- ITS FALSE NEIGHBOUR: 'it returns false'. Refute it at one input. -/
def wireTextsWrong : ChangeSpec := { name := "wireTexts", fn := fun _ => fun
  | [d1, d2] => { results := [.lit (.bool false)], args := [d1, d2] }
  | _ => none }
def WireTextsWrongFalsely : Prop := wireTextsRow.holds Tryd.pinned (OpenSpec.ofChange wireTextsWrong)

/- THE SECOND FORM. 'bulk': how many values and letters a reading holds, each counted each time it is reached (what is shared counts as often as it is met; a slice's spare places count too). A statement '..UptoSaid' is the law's where the arguments, and the package variables that the reading takes, are together of bulk at most 1048576: NARROWER than '..Said'. Prove '..Said' where nothing that the law and all that it calls make is longer than what came in: it says more and counts as full. Else prove '..UptoSaid'. A law counts once. -/
mutual
def uptoBulk {H : Type} : DataW H → Nat
  | .lit (.string bytes) => bytes.length + 1
  | .lit _ => 1
  | .nil => 1
  | .ptr d => uptoBulk d + 1
  | .slice elems spare => uptoBulkAll elems + uptoBulkAll spare + 1
  | .agg parts => uptoBulkAll parts + 1
  | .iface _ d => uptoBulk d + 1
  | .map entries => uptoBulkEntries entries + 1
  | .held _ => 1
def uptoBulkAll {H : Type} : List (DataW H) → Nat
  | [] => 0
  | d :: r => uptoBulk d + uptoBulkAll r
def uptoBulkEntries {H : Type} : List (Lit × DataW H) → Nat
  | [] => 0
  | x :: r => uptoBulkEntry x + uptoBulkEntries r
def uptoBulkEntry {H : Type} : Lit × DataW H → Nat
  | (.string bytes, d) => bytes.length + uptoBulk d + 1
  | (_, d) => uptoBulk d + 1
 end
def uptoSmall : (H : Type) → List (DataW H) → Bool := fun _ ds => decide (uptoBulkAll ds ≤ 1048576)
def OpenSpec.upto (s : _root_.Go.ChangeSpec) : _root_.Go.OpenSpec := { _root_.Go.OpenSpec.ofChange s with cond := some uptoSmall }

/-- 'parleylaw1.WireDeep', WHERE WHAT IT READS IS OF BULK AT MOST 1048576: true; the input reads as it did. -/
def wireDeepUptoRow : OpenClaim := { program := "ytnahkhiomnkbcaadoor", sum := "0f51cfebd1f5ab7af450ec2d48297daabd901defde6ef9111c3a9da8e308706c", func := "parley/parleylaw1.WireDeep", spec := "wireDeep", unfollowed := true, recurses := true, named := ["parley/api.ErrLong", "parley/api.ErrEnd", "parley/api.ErrGroup", "parley/api.ErrTag", "parley/api.ErrNumber", "parley/api.ErrDeep"], apart := false, laid := [("parley/api.ErrEnd", laid_parley_api_ErrEnd), ("parley/api.ErrLong", laid_parley_api_ErrLong), ("parley/api.ErrTag", laid_parley_api_ErrTag), ("parley/api.ErrGroup", laid_parley_api_ErrGroup), ("parley/api.ErrDeep", laid_parley_api_ErrDeep), ("parley/api.ErrNumber", laid_parley_api_ErrNumber)], narrowed := true }
def WireDeepUptoSaid : Prop := wireDeepUptoRow.holds Tryd.pinned (OpenSpec.upto wireDeepSpec)

/-- 'parleylaw1.WireRecords', WHERE WHAT IT READS IS OF BULK AT MOST 1048576: true; the input reads as it did. -/
def wireRecordsUptoRow : OpenClaim := { program := "ytnahkhiomnkbcaadoor", sum := "0f51cfebd1f5ab7af450ec2d48297daabd901defde6ef9111c3a9da8e308706c", func := "parley/parleylaw1.WireRecords", spec := "wireRecords", unfollowed := true, recurses := true, named := ["parley/api.ErrLong", "parley/api.ErrEnd", "parley/api.ErrGroup", "parley/api.ErrTag", "parley/api.ErrNumber", "parley/api.ErrDeep"], apart := false, laid := [("parley/api.ErrEnd", laid_parley_api_ErrEnd), ("parley/api.ErrLong", laid_parley_api_ErrLong), ("parley/api.ErrTag", laid_parley_api_ErrTag), ("parley/api.ErrGroup", laid_parley_api_ErrGroup), ("parley/api.ErrDeep", laid_parley_api_ErrDeep), ("parley/api.ErrNumber", laid_parley_api_ErrNumber)], narrowed := true }
def WireRecordsUptoSaid : Prop := wireRecordsUptoRow.holds Tryd.pinned (OpenSpec.upto wireRecordsSpec)

/-- 'parleylaw1.WireOwn', WHERE WHAT IT READS IS OF BULK AT MOST 1048576: true; the input reads as it did. -/
def wireOwnUptoRow : OpenClaim := { program := "ytnahkhiomnkbcaadoor", sum := "0f51cfebd1f5ab7af450ec2d48297daabd901defde6ef9111c3a9da8e308706c", func := "parley/parleylaw1.WireOwn", spec := "wireOwn", unfollowed := true, recurses := true, named := ["parley/api.ErrLong", "parley/api.ErrEnd", "parley/api.ErrGroup", "parley/api.ErrTag", "parley/api.ErrNumber", "parley/api.ErrDeep"], apart := false, laid := [("parley/api.ErrEnd", laid_parley_api_ErrEnd), ("parley/api.ErrLong", laid_parley_api_ErrLong), ("parley/api.ErrTag", laid_parley_api_ErrTag), ("parley/api.ErrGroup", laid_parley_api_ErrGroup), ("parley/api.ErrDeep", laid_parley_api_ErrDeep), ("parley/api.ErrNumber", laid_parley_api_ErrNumber)], narrowed := true }
def WireOwnUptoSaid : Prop := wireOwnUptoRow.holds Tryd.pinned (OpenSpec.upto wireOwnSpec)

/-- 'parleylaw1.WireAgain', WHERE WHAT IT READS IS OF BULK AT MOST 1048576: true; the input reads as it did. -/
def wireAgainUptoRow : OpenClaim := { program := "ytnahkhiomnkbcaadoor", sum := "0f51cfebd1f5ab7af450ec2d48297daabd901defde6ef9111c3a9da8e308706c", func := "parley/parleylaw1.WireAgain", spec := "wireAgain", unfollowed := true, recurses := true, named := ["parley/api.ErrLong", "parley/api.ErrEnd", "parley/api.ErrGroup", "parley/api.ErrTag", "parley/api.ErrNumber", "parley/api.ErrDeep"], apart := false, laid := [("parley/api.ErrEnd", laid_parley_api_ErrEnd), ("parley/api.ErrLong", laid_parley_api_ErrLong), ("parley/api.ErrTag", laid_parley_api_ErrTag), ("parley/api.ErrGroup", laid_parley_api_ErrGroup), ("parley/api.ErrDeep", laid_parley_api_ErrDeep), ("parley/api.ErrNumber", laid_parley_api_ErrNumber)], narrowed := true }
def WireAgainUptoSaid : Prop := wireAgainUptoRow.holds Tryd.pinned (OpenSpec.upto wireAgainSpec)

/-- 'parleylaw1.WireBack', WHERE WHAT IT READS IS OF BULK AT MOST 1048576: true; the input reads as it did. -/
def wireBackUptoRow : OpenClaim := { program := "ytnahkhiomnkbcaadoor", sum := "0f51cfebd1f5ab7af450ec2d48297daabd901defde6ef9111c3a9da8e308706c", func := "parley/parleylaw1.WireBack", spec := "wireBack", unfollowed := true, recurses := true, named := ["parley/api.ErrLong", "parley/api.ErrEnd", "parley/api.ErrGroup", "parley/api.ErrTag", "parley/api.ErrNumber", "parley/api.ErrDeep"], apart := false, laid := [("parley/api.ErrEnd", laid_parley_api_ErrEnd), ("parley/api.ErrLong", laid_parley_api_ErrLong), ("parley/api.ErrTag", laid_parley_api_ErrTag), ("parley/api.ErrGroup", laid_parley_api_ErrGroup), ("parley/api.ErrDeep", laid_parley_api_ErrDeep), ("parley/api.ErrNumber", laid_parley_api_ErrNumber)], narrowed := true }
def WireBackUptoSaid : Prop := wireBackUptoRow.holds Tryd.pinned (OpenSpec.upto wireBackSpec)

/-- 'parleylaw1.WireTexts', WHERE WHAT IT READS IS OF BULK AT MOST 1048576: true; the input reads as it did. -/
def wireTextsUptoRow : OpenClaim := { program := "ytnahkhiomnkbcaadoor", sum := "0f51cfebd1f5ab7af450ec2d48297daabd901defde6ef9111c3a9da8e308706c", func := "parley/parleylaw1.WireTexts", spec := "wireTexts", unfollowed := true, recurses := true, named := ["parley/api.ErrLong", "parley/api.ErrEnd", "parley/api.ErrGroup", "parley/api.ErrTag", "parley/api.ErrNumber", "parley/api.ErrDeep", "unicode/utf8.first", "unicode/utf8.acceptRanges"], apart := false, laid := [("unicode/utf8.acceptRanges", laid_unicode_utf8_acceptRanges), ("parley/api.ErrEnd", laid_parley_api_ErrEnd), ("parley/api.ErrLong", laid_parley_api_ErrLong), ("parley/api.ErrTag", laid_parley_api_ErrTag), ("parley/api.ErrGroup", laid_parley_api_ErrGroup), ("parley/api.ErrDeep", laid_parley_api_ErrDeep), ("parley/api.ErrNumber", laid_parley_api_ErrNumber), ("unicode/utf8.first", laid_unicode_utf8_first)], narrowed := true }
def WireTextsUptoSaid : Prop := wireTextsUptoRow.holds Tryd.pinned (OpenSpec.upto wireTextsSpec)

end Rows
end Go.Proofs.YtnahkhiomnkbcaaDoor
