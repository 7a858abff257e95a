import Derived.Test.YtkpppjhbmnfmkaaGreatDoorXb
import Derived.Test.YtkpppjhbmnfmkaaGreatDoorJae
import Derived.Test.YtkpppjhbmnfmkaaGreatDoorJat
set_option linter.unusedSimpArgs false
set_option linter.unusedVariables false
namespace Go.Proofs.YtkpppjhbmnfmkaaGreatDoor
open Go.RowKit Go.Own Go.Own.Im Go.Own.Cx Go.Own.Fr Go.Own.Hd
theorem connIdle_any (W:World) (hE:EnvW W) (side t f i:Int) (A:Option Addr) (n c:Nat) (p:List UInt8) (ak:Bool) (hr:Rd W W.heap.size A n p) (hc:n<=c):
 Calls Tryz.prog 3 #[.int .i64 side,.agg #[.int .i64 t,.int .i64 f,.int .i64 i,.slice A n c],.bool ak] W λe w'=>e= .returned (.bool true)/\Below W.heap.size W w':=by
 by_cases h:i<0\/2147483647<i\/t<0\/255<t\/f<0\/255<f\/20000<n
 · exact idle_out W hE side t f i A n c ak h
 · obtain⟨t',rfl⟩:=Int.eq_ofNat_of_zero_le (show 0<=t by omega)
   obtain⟨f',rfl⟩:=Int.eq_ofNat_of_zero_le (show 0<=f by omega);obtain⟨i',rfl⟩:=Int.eq_ofNat_of_zero_le (show 0<=i by omega);obtain⟨d,h0,hd⟩:=and_mask side 1 (by decide);exact idle_side W hE side d (d+1) rfl (by omega) hd t' f' i' A n c p ak hr hc (by omega) (by omega) (by omega) (by omega)
end Go.Proofs.YtkpppjhbmnfmkaaGreatDoor
