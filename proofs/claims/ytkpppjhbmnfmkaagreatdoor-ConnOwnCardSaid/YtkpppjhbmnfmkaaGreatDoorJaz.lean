/-
  
  
-/
import Derived.Test.YtkpppjhbmnfmkaaGreatDoorJay
import Derived.Test.YtkpppjhbmnfmkaaGreatDoorF6
set_option linter.unusedSimpArgs false
set_option linter.unusedVariables false
section
namespace Go.Proofs.YtkpppjhbmnfmkaaGreatDoor
open Go.RowKit Go.Own Go.Own.Im Go.Own.Cx Go.Own.Fr
theorem Fr.tagNew {w w1:World} {ow ow1:Nat->Tg} (h:Go.Own.Cx.Fr w ow w1 ow1) {g:Nat} (hg:w.heap.size<=g) (t:Tg):Go.Own.Cx.Fr w ow w1 (upd ow1 g t):=⟨h.os,h.tape,h.output,h.size,h.keep,λj hj ho=>by rw[upd_other _ _ (by omega)];exact h.no j hj ho⟩
theorem oz_far {w:World} {ow:Nat->Tg} {A:Option Addr} {n c:Nat} {l:List UInt8} (z:Oz w (λj=>ow j= .blk) (.slice A n c) l) (hc:n<=c):0<n->∀ad,A=some ad->offT ow ad.block≠ .dec:=λh0 ad ha=>by
 obtain⟨A',c',e,h1,h2,h3⟩:=z;injection e with e1 e2 e3
 subst e1;subst e3;obtain⟨g,off,e2,ho,_⟩:=h3 (by omega);rw[ha]at e2;injection e2 with e2
 subst e2;show offT ow g≠ .dec;unfold offT;rw[if_pos (.inr ho)]
 decide
end Go.Proofs.YtkpppjhbmnfmkaaGreatDoor
end

section
namespace Go.Proofs.YtkpppjhbmnfmkaaGreatDoor
open Go.RowKit Go.Own Go.Own.Im Go.Own.Cx Go.Own.Fr
attribute [local go_sem] Oper.semAt_some
end Go.Proofs.YtkpppjhbmnfmkaaGreatDoor
end
