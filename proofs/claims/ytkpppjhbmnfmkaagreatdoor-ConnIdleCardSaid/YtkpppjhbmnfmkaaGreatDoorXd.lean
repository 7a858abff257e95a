import Derived.Test.YtkpppjhbmnfmkaaGreatDoorXc
import Derived.Test.YtkpppjhbmnfmkaaGreatDoorJaa
import Derived.Lib.SmallJoins
set_option linter.unusedSimpArgs false
set_option linter.unusedVariables false
set_option maxRecDepth 100000
namespace Go.Proofs.YtkpppjhbmnfmkaaGreatDoor
open Go.RowKit Go.Own Go.ChangeShapes Go.WideShapes Go.ChangeAt Go.Deep Go.Joins
variable {H:Type} {enc:TypeId×Value->H} {w:World} {base:Nat} {spare:Nat->Bool} {held:Bool}
theorem open_frame {r:Reach} {b0:Nat} {v:Value} {d:DataW H} {p:List MemPlace} (hv:Value.okWide Tryz.prog w r b0 24 v) (h:DataW.Trod enc Tryz.prog w base spare held 24 v d p):
 ∃(t f i:Int) (A:Option Addr) (n c:Nat) (l:List UInt8),v= .agg #[.int .i64 t,.int .i64 f,.int .i64 i,.slice A n c]/\Rd w w.heap.size A n l/\n<=c:=by
 obtain⟨v0,v1,v2,v3,y0,y1,y2,y3,m,rfl,_,_,h0,h1,h2,h3⟩:=open_agg4 Tryz.underlying24 (by kernel_rfl) (by kernel_rfl) hv h;obtain⟨a,e0,_,_⟩:=DataW.trod_int Tryz.underlying3 h0;obtain⟨b,e1,_,_⟩:=DataW.trod_int Tryz.underlying3 h1;obtain⟨c,e2,_,_⟩:=DataW.trod_int Tryz.underlying3 h2;simp at e0 e1 e2;subst e0 e1 e2;have hs:∃A n k,v3= .slice A n k:=by
  rcases open_ints Tryz.underlying22 Tryz.underlying5 (by kernel_rfl) h3 with⟨hcs,_⟩|⟨x,l,k,zs,hcs,_⟩
  · simp at hcs
    exact⟨_,_,_,hcs⟩
  · simp at hcs
    exact⟨_,_,_,hcs⟩
 obtain⟨A,n,k,rfl⟩:=hs;obtain⟨l,hr,hc⟩:=rd_of_trod Tryz.underlying22 Tryz.underlying5 (by kernel_rfl) ⟨m,h3⟩;exact⟨a,b,c,A,n,k,l,rfl,hr,hc⟩
end Go.Proofs.YtkpppjhbmnfmkaaGreatDoor
