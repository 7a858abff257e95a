import Derived.Test.YtkpppjhbmnfmkaaGreatDoorJau
import Derived.BigQuiet
set_option linter.unusedSimpArgs false
set_option linter.unusedVariables false
namespace Go.Proofs.YtkpppjhbmnfmkaaGreatDoor
open Go.RowKit Go.Own Go.Own.Im Go.Own.Cx Go.Own.Fr
end Go.Proofs.YtkpppjhbmnfmkaaGreatDoor
