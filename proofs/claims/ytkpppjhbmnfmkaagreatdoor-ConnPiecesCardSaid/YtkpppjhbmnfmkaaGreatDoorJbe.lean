/-
  
  
  
  
  
-/
import Derived.Test.YtkpppjhbmnfmkaaGreatDoorYo
import Derived.Test.YtkpppjhbmnfmkaaGreatDoorJaf
set_option linter.unusedSimpArgs false
set_option linter.unusedVariables false
section
namespace Go.Proofs.YtkpppjhbmnfmkaaGreatDoor
open Go.RowKit Go.Own Go.Own.Fr Go.Own.Im
attribute [local go_sem] Oper.semAt_some
end Go.Proofs.YtkpppjhbmnfmkaaGreatDoor
end

section
namespace Go.Proofs.YtkpppjhbmnfmkaaGreatDoor
open Go.RowKit Go.Own Go.Own.Fr Go.Own.Im
attribute [local go_sem] Oper.semAt_some
theorem rd_one {i0:Inf} {p:List UInt8} (h1:i0.typ=1):rd i0 p=if i0.prio=true then(if p.length<5 then .error (6,0)else match withDep i0 p with
 | .ok j=>.ok {j with data:=p.drop 5}
 | .error x=>.error x)else .ok {i0 with data:=p}:=by
 cases i0;simp only at h1;subst h1
 rfl
end Go.Proofs.YtkpppjhbmnfmkaaGreatDoor
end

section
namespace Go.Proofs.YtkpppjhbmnfmkaaGreatDoor
open Go.RowKit Go.Own Go.Own.Fr Go.Own.Im
attribute [local go_sem] Oper.semAt_some
end Go.Proofs.YtkpppjhbmnfmkaaGreatDoor
end

section
namespace Go.Proofs.YtkpppjhbmnfmkaaGreatDoor
open Go.RowKit Go.Own Go.Own.Fr Go.Own.Im
attribute [local go_sem] Oper.semAt_some
theorem rd_0 {i0:Inf} {p:List UInt8} (h:i0.typ=0):rd i0 p= .ok {i0 with data:=p}:=by
 cases i0;simp only at h;subst h
 rfl
theorem rd_9 {i0:Inf} {p:List UInt8} (h:i0.typ=9):rd i0 p= .ok {i0 with data:=p}:=by
 cases i0;simp only at h;subst h
 rfl
theorem rd_6 {i0:Inf} {p:List UInt8} (h:i0.typ=6):rd i0 p=if p.length=8 then .ok {i0 with data:=p}else .error (6,0):=by
 cases i0;simp only at h;subst h
 rfl
theorem rd_3 {i0:Inf} {p:List UInt8} (h:i0.typ=3):rd i0 p=if p.length=4 then .ok {i0 with code:=ofB 0 p}else .error (6,0):=by
 cases i0;simp only at h;subst h
 rfl
theorem rd_7 {i0:Inf} {p:List UInt8} (h:i0.typ=7):rd i0 p=if p.length<8 then .error (6,0)else .ok {i0 with last:=low (ofB 0 (p.take 4)),code:=ofB 0 ((p.drop 4).take 4),data:=p.drop 8}:=by
 cases i0;simp only at h;subst h
 rfl
theorem rd_big {i0:Inf} {p:List UInt8} (h:9<i0.typ):rd i0 p= .ok {i0 with data:=p}:=by
 unfold rd
 split<;>first
  |rfl
  |(exfalso;omega)
end Go.Proofs.YtkpppjhbmnfmkaaGreatDoor
end

section
namespace Go.Proofs.YtkpppjhbmnfmkaaGreatDoor
open Go.RowKit Go.Own Go.Own.Fr Go.Own.Im
attribute [local go_sem] Oper.semAt_some
theorem rd_8 {i0:Inf} {p:List UInt8} (h:i0.typ=8):rd i0 p=if p.length=4 then(if low (ofB 0 p)=0 then .error (1,i0.stream)else .ok {i0 with inc:=low (ofB 0 p)})else .error (6,0):=by
 cases i0;simp only at h;subst h
 rfl
theorem rd_5 {i0:Inf} {p:List UInt8} (h:i0.typ=5):rd i0 p=if p.length<4 then .error (6,0)else if low (ofB 0 (p.take 4))=0 then .error (1,0)else .ok {i0 with promise:=low (ofB 0 (p.take 4)),data:=p.drop 4}:=by
 cases i0;simp only at h;subst h
 rfl
theorem rd_2 {i0:Inf} {p:List UInt8} (h:i0.typ=2):rd i0 p=if p.length=5 then withDep i0 p else .error (6,i0.stream):=by
 cases i0;simp only at h;subst h
 rfl
theorem rd_4 {i0:Inf} {p:List UInt8} (h:i0.typ=4):rd i0 p=if(i0.ack=true/\0<p.length)\/p.length % 6≠0 then .error (6,0)else match setsOf p with
 | .ok l=>.ok {i0 with sets:=l}
 | .error x=>.error x:=by
 cases i0;simp only at h;subst h
 rfl
end Go.Proofs.YtkpppjhbmnfmkaaGreatDoor
end
