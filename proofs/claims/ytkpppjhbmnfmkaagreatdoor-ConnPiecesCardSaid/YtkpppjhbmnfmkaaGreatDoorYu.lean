import Derived.Test.YtkpppjhbmnfmkaaGreatDoorJbe
set_option linter.unusedSimpArgs false
set_option linter.unusedVariables false
namespace Go.Proofs.YtkpppjhbmnfmkaaGreatDoor
open Go.RowKit Go.Own Go.Own.Fr Go.Own.Im
attribute [local go_sem] Oper.semAt_some
def opn2 (t f s:Nat) (p:List UInt8):Except (Nat×Nat) Inf:=
 if hasF t f 8=true then
  match p with
  |[]=>.error (6,0)
  |c::q=>if p.length<=c.toNat then .error (1,0)else rd {info0 t f s with pad:=c.toNat} (q.take (q.length-c.toNat))
 else rd (info0 t f s) p
theorem row_big {t:Nat} (h:9<t):rowOf t=(true,true,0):=by
 obtain⟨k,rfl⟩:∃k,t=k+10:=⟨t-10,by omega⟩
 rfl
theorem row_str (t:Nat):strW t=1/\(rowOf t).1=false/\(rowOf t).2.1=true\/strW t=0/\(rowOf t).1=true/\(rowOf t).2.1=false\/strW t= -1/\(rowOf t).1=true/\(rowOf t).2.1=true:=by
 rcases ten t with rfl|rfl|rfl|rfl|rfl|rfl|rfl|rfl|rfl|rfl|h
 all_goals first
  |(unfold strW;rw[row_big h];simp)
  |(unfold strW rowOf;simp)
theorem opn_str (t f s:Nat) (p:List UInt8):(strW t=1/\s=0/\opn t f s p= .error (1,0))\/(strW t=0/\s≠0/\opn t f s p= .error (1,0))\/
 (strW t=1/\s≠0/\opn t f s p=opn2 t f s p)\/(strW t=0/\s=0/\opn t f s p=opn2 t f s p)\/(strW t= -1/\opn t f s p=opn2 t f s p):=by
 have hb:((s=0/\(rowOf t).1=false)\/(s≠0/\(rowOf t).2.1=false))->opn t f s p= .error (1,0):=λh=>if_pos h;have hg:¬((s=0/\(rowOf t).1=false)\/(s≠0/\(rowOf t).2.1=false))->opn t f s p=opn2 t f s p:=λh=>if_neg h;by_cases hs:s=0<;>rcases row_str t with⟨h1,h2,h3⟩|⟨h1,h2,h3⟩|⟨h1,h2,h3⟩<;>rw[h2,h3]at hb hg<;>simp[hs]at hb hg<;>simp[h1,hs,hb,hg]
theorem hasF_is (t f k:Nat):hasF t f k=((rowOf t).2.2&&& k&&& f != 0):=by unfold hasF;rw[Nat.and_assoc,Nat.and_comm f k,<-Nat.and_assoc]
theorem has8 (t f:Nat):hasF t f 8=(decide (t=0\/t=1\/t=5)&&(f&&& 8 != 0)):=by
 rw[hasF_is,Nat.and_comm f 8];rcases ten t with rfl|rfl|rfl|rfl|rfl|rfl|rfl|rfl|rfl|rfl|h
 all_goals first
  |(rw[row_big h,decide_eq_false (by omega)];simp)
  |(simp[rowOf])
structure O3 (W X:World) (t f s:Nat) (v:Value) (cr z:Array Value):Prop where
 f:Blk X W.heap.size 24 #[.int .i64 (t:Nat),.int .i64 (f:Nat),.int .i64 (s:Nat),v]
 r:Blk X (W.heap.size+1) 96 cr
 z:Blk X (W.heap.size+2) 98 z
 b:Below W.heap.size W X
structure O4 (W X:World) (t f s:Nat) (v:Value) (cr z:Array Value) (g:Nat) (ty:TypeId) (ci:Array Value):Prop where
 o:O3 W X t f s v cr z
 i:Blk X g ty ci
 g:W.heap.size+3<=g
section
variable {W X Y:World} {t f s:Nat} {v:Value} {cr z ci:Array Value} {g:Nat} {ty:TypeId}
end
end Go.Proofs.YtkpppjhbmnfmkaaGreatDoor
