import Derived.Test.YtkpppjhbmnfmkaaGreatDoorM1
import Derived.BigQuiet
set_option linter.unusedSimpArgs false
set_option linter.unusedVariables false
namespace Go.Proofs.YtkpppjhbmnfmkaaGreatDoor
open Go.RowKit Go.Own Go.Own.Im Go.Own.Cx Go.Own.Fr
def Says (w:World) (v:Value) (e:Ending) (w':World):Prop:=e= .returned v/\∃n,w'=w.drewN n
theorem says0 (w:World) (v:Value):Says w v (.returned v) w:=⟨rfl,0,rfl⟩
section
variable {w:World} {ow:Nat->Tg} {b:Nat} {M:Cv} {L:Lay} {a:Addr}
end
end Go.Proofs.YtkpppjhbmnfmkaaGreatDoor
