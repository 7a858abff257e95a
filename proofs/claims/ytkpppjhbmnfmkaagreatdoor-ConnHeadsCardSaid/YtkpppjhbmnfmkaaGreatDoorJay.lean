/-
  
  
  
  
  
-/
import Derived.Test.YtkpppjhbmnfmkaaGreatDoorJav
import Derived.BigQuiet
import Derived.Test.YtkpppjhbmnfmkaaGreatDoorJac
import Derived.Test.YtkpppjhbmnfmkaaGreatDoorJao
import Derived.Deep.RegionLaw
set_option linter.unusedSimpArgs false
set_option linter.unusedVariables false
section
namespace Go.Proofs.YtkpppjhbmnfmkaaGreatDoor
open Go.RowKit Go.Own Go.Own.Im Go.Own.Cx Go.Own.Fr
theorem runs_hello2 (M:Cv) (hd:M.dead=false) (hl:M.list=none) (ho:M.out.length<=1000000000) (hn:M.evs.length<=900000):Runs 26 {M with preface:=0,fed:=prefB++frameB 4 0 0 []} (λM'=>M'=setM {M with preface:=24,fed:=[]}):=by
 refine runs_pref (n:=2) M (frameB 4 0 0 []) hd ?_ 24 (Nat.le_refl _);refine .more hd (step_takes _ _ 4 0 0 [] [] rfl (by show frameB 4 0 0 []=_;rw[List.append_nil]) (by decide) (by decide) (by decide) (by decide) (takes_set _ hl ho hn)) λM1 h1=>?_;subst h1;exact .stop hd ((step_few _ rfl (by show([]:List UInt8).length<9;decide)).mono λM' h'=>h')
end Go.Proofs.YtkpppjhbmnfmkaaGreatDoor
end

section
namespace Go.Proofs.YtkpppjhbmnfmkaaGreatDoor
open Go.RowKit Go.Own Go.Own.Im Go.Own.Cx Go.Own.Fr
section
variable {w:World} {ow:Nat->Tg} {b:Nat} {M:Cv} {L:Lay} {a:Addr}
end
end Go.Proofs.YtkpppjhbmnfmkaaGreatDoor
end

section
namespace Go.Proofs.YtkpppjhbmnfmkaaGreatDoor
open Go.RowKit Go.Own Go.Own.Im Go.Own.Cx Go.Own.Fr
section
variable {w:World} {ow:Nat->Tg} {b:Nat} {M:Cv} {L:Lay} {a:Addr}
end
end Go.Proofs.YtkpppjhbmnfmkaaGreatDoor
end

section
namespace Go.Proofs.YtkpppjhbmnfmkaaGreatDoor
open Go.RowKit Go.Own Go.Own.Im Go.Own.Cx Go.Own.Fr
section
variable {wA w8:World} {ow:Nat->Tg} {b:Nat} {M:Cv} {L:Lay} {row:Option Nat}
end
section
variable {w:World} {ow:Nat->Tg} {b:Nat} {M:Cv} {L:Lay} {a:Addr}
end
end Go.Proofs.YtkpppjhbmnfmkaaGreatDoor
end

section
namespace Go.Proofs.YtkpppjhbmnfmkaaGreatDoor
open Go.RowKit Go.Own Go.Own.Im Go.Own.Cx Go.Own.Fr
attribute [local go_sem] Oper.semAt_some
end Go.Proofs.YtkpppjhbmnfmkaaGreatDoor
end
