import Derived.Test.YtkpppjhbmnfmkaaGreatDoorKq
import Derived.Test.YtkpppjhbmnfmkaaGreatDoorJaz
import Derived.Test.YtkpppjhbmnfmkaaGreatDoorJar
import Derived.Test.YtkpppjhbmnfmkaaGreatDoorJai
import Derived.Test.YtkpppjhbmnfmkaaGreatDoorJat
import Derived.Test.YtkpppjhbmnfmkaaGreatDoorJbc
set_option linter.unusedSimpArgs false
set_option linter.unusedVariables false
namespace Go.Proofs.YtkpppjhbmnfmkaaGreatDoor
open Go.RowKit Go.Own Go.Own.Im Go.Own.Cx Go.Own.Fr Go.Own.Hd
theorem Env.d {w:World} {ow:Nat->Tg} (h:Env w ow):EnvD w ow:=⟨h.hp,h.no⟩
theorem tag_no {w W:World} {ow:Nat->Tg} {b:Nat} {M:Cv} {L:Lay} (h:CN w ow b M L) {A6:Option Addr} {c6:Nat} {l:List UInt8} (hd:Ow W w.heap.size 5 (.slice A6 l.length c6) l.length l):0<l.length->∀ad,A6=some ad->ow ad.block= .no:=λh1 ad ha=>by
 refine h.new _ ?_;rcases hd.2 with⟨e,h0⟩|⟨g,cap,cur,e,hb,_⟩
 · have h0:l.length=0:=h0
   omega
 · injection e with e
   rw[ha]at e;injection e with e
   rw[e];exact hb
def doneM (M:Cv) (id:Nat) (fin:Bool) (hs:List HdrV) (t':Hk.TM) (A:Option Addr) (c:Nat):Cv:=opnM {M with list:=none,hp:=M.hp.turned t'} id fin hs A c
end Go.Proofs.YtkpppjhbmnfmkaaGreatDoor
