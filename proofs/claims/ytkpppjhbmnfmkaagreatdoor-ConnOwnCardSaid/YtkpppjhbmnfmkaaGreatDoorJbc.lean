/-
  
  
-/
import Derived.Test.YtkpppjhbmnfmkaaGreatDoorJbb
import Derived.Test.YtkpppjhbmnfmkaaGreatDoorJba
import Derived.Test.YtkpppjhbmnfmkaaGreatDoorJan
import Derived.Test.YtkpppjhbmnfmkaaGreatDoorJai
import Derived.Test.YtkpppjhbmnfmkaaGreatDoorJas
import Derived.Test.YtkpppjhbmnfmkaaGreatDoorJat
set_option linter.unusedSimpArgs false
set_option linter.unusedVariables false
section
namespace Go.Proofs.YtkpppjhbmnfmkaaGreatDoor
open Go.RowKit Go.Own Go.Own.Im Go.Own.Cx Go.Own.Fr
attribute [local go_sem] Oper.semAt_some
theorem strAt_upd {M:Cv} {id:Int} {s s':Sv} (h:strAt M id=some s) (e:s'.id=s.id) (M':Cv) (hM:M'.strs=updS M.strs s'):strAt M' id=some s':=by
 unfold strAt at h ⊢;rw[hM,updS,List.find?_map];have hp:((λx:Sv=>decide ((x.id:Int)=id))∘λx:Sv=>if x.id=s'.id then s' else x)=λx:Sv=>decide ((x.id:Int)=id):=by
  funext x
  show decide (((if x.id=s'.id then s' else x).id:Int)=id)=_;by_cases h2:x.id=s'.id
  · rw[if_pos h2,h2]
  · rw[if_neg h2]
 rw[hp,h];show some (if s.id=s'.id then s' else s)=_;rw[if_pos e.symm]
def dataS (s:Sv) (sz n:Nat) (fin:Bool):Sv:=endS {s with inw:=if fin then s.inw-sz else s.inw-sz+((sz-n:Nat):Int),held:=s.held+n} fin
def dataE (M:Cv) (s:Sv) (l:List UInt8) (fin:Bool) (A:Option Addr) (c:Nat):List EvV:=
 if 0<l.length\/fin=true then M.evs++[({kind:=2,stream:=s.id,fin:=fin,ba:=A,bc:=c,by_:=l}:EvV)]else M.evs
theorem evC_data (k st:Nat) (f:Bool) (A:Option Addr) (c:Nat) (l:List UInt8):evC {kind:=k,stream:=st,fin:=f,ba:=A,bc:=c,by_:=l}= #[.int .i64 (k:Nat),.int .i64 (st:Nat),.int .i64 0,.int .i64 0,.bool f,.slice none 0 0,.slice A l.length c]:=rfl
theorem wadd2 (a n:Nat) (h:a<=1000000000) (hs:n<=1000000):wrap64 ((a:Int)+(n:Int))=((a+n:Nat):Int)/\IntKind.i64.wrap ((a:Int)+(n:Int))=((a+n:Nat):Int):=⟨by unfold wrap64;omega,by rw[IntKind.wrap_i64];omega⟩
theorem evd_tag {w0 W:World} {ow0 OW:Nat->Tg} {b:Nat} {M:Cv} {L:Lay} {B n c st:Nat} {A:Option Addr} {l:List UInt8} {fin:Bool} (hF:Fr w0 ow0 W OW) (h:CN W OW b M L) (hr:Rd W B A n l) (hB:B<=W.heap.size) (hc:n<=c) (h2:0<n->∀ad,A=some ad->OW ad.block= .no/\w0.heap.size<=ad.block/\UF W ad.block):
 ∃OW',CN W OW' b M L/\Fr w0 ow0 W OW'/\EvOk W OW' {kind:=2,stream:=st,fin:=fin,ba:=A,bc:=c,by_:=l}/\∀g,B<=g->OW' g=OW g:=by
 have h1:l.length=n:=hr.1;rcases Nat.eq_zero_or_pos n with h0|h0
 · refine⟨OW,h,hF,⟨⟨Nat.le_refl _,Cm.RS.nil,λh=>absurd h (Nat.lt_irrefl _)⟩,⟨by show l.length<=c;omega,by show Rd W W.heap.size A l.length l;rw[h1];exact hr.more hB,λhp=>by have hp:0<l.length:=hp;omega⟩⟩,λ_ _=>rfl⟩
 · obtain⟨ad,rfl,h6,_⟩:=hr.2 h0
   obtain⟨h3,h7,h4⟩:=h2 h0 ad rfl;refine⟨upd OW ad.block .evd,h.tag h3 (by omega) .evd,⟨hF.os,hF.tape,hF.output,hF.size,hF.keep,λg h5 ho=>by rw[upd_other _ _ (by omega)];exact hF.no g h5 ho⟩,⟨⟨Nat.le_refl _,Cm.RS.nil,λh=>absurd h (Nat.lt_irrefl _)⟩,⟨by show l.length<=c;omega,by show Rd W W.heap.size (some ad) l.length l;rw[h1];exact hr.more hB,λ_ ad2 e=>by
    have e:some ad=some ad2:=e;injection e with e
    rw[<-e];exact⟨upd_same _ _ _,h4⟩⟩⟩,λg hg=>upd_other _ _ (by omega)⟩
end Go.Proofs.YtkpppjhbmnfmkaaGreatDoor
end

section
namespace Go.Proofs.YtkpppjhbmnfmkaaGreatDoor
open Go.RowKit Go.Own Go.Own.Im Go.Own.Cx Go.Own.Fr Go.Own.Hd
end Go.Proofs.YtkpppjhbmnfmkaaGreatDoor
end
