import Derived.Test.YtkpppjhbmnfmkaaGreatDoorJai
import Derived.Test.YtkpppjhbmnfmkaaGreatDoorJaa
set_option linter.unusedSimpArgs false
set_option linter.unusedVariables false
namespace Go.Own
open Go Go.RowKit
end Go.Own
namespace Go.Proofs.YtkpppjhbmnfmkaaGreatDoor
open Go.RowKit Go.Own Go.Own.Fr Go.Own.Im
attribute [local go_sem] Oper.semAt_some
structure Q4 (W X:World) (t f s:Nat) (v:Value) (ci cr z:Array Value):Prop where
 f:Blk X W.heap.size 24 #[.int .i64 (t:Nat),.int .i64 (f:Nat),.int .i64 (s:Nat),v]
 i:Blk X (W.heap.size+1) 96 ci
 r:Blk X (W.heap.size+2) 96 cr
 z:Blk X (W.heap.size+3) 98 z
 b:Below W.heap.size W X
section
variable {W X Y:World} {t f s:Nat} {v:Value} {ci cr z:Array Value}
end
end Go.Proofs.YtkpppjhbmnfmkaaGreatDoor
