set_option linter.unusedSimpArgs false
set_option linter.unusedVariables false
namespace Go.Own.Fr
def be (n:Nat):Nat->List UInt8
 |0=>[]
 |k+1=>UInt8.ofNat (n/256^k)::be n k
def ofB (a:Nat) (l:List UInt8):Nat:=l.foldl (λn c=>n*256+c.toNat) a
theorem be_len (n:Nat):∀k,(be n k).length=k
 |0=>rfl
 |k+1=>by simp[be,be_len n k]
theorem ofB_nil (a:Nat):ofB a []=a:=rfl
theorem ofB_cons (a:Nat) (c:UInt8) (l:List UInt8):ofB a (c::l)=ofB (a*256+c.toNat) l:=rfl
theorem ofB_app (a:Nat) (l m:List UInt8):ofB a (l++m)=ofB (ofB a l) m:=by simp[ofB]
theorem ofB_be (a n:Nat):∀k,ofB a (be n k)=a*256^k+n % 256^k
 |0=>by simp[be,ofB,Nat.mod_one]
 |k+1=>by
  have h1:(UInt8.ofNat (n/256^k)).toNat=n/256^k % 256:=by simp
  rw[be,ofB_cons,ofB_be _ n k,h1,Nat.pow_succ,Nat.mod_mul,Nat.add_mul,Nat.mul_assoc,Nat.mul_comm 256 (256^k),Nat.mul_comm (n/256^k % 256) (256^k)];omega
theorem ofB_lt (l:List UInt8):∀a,ofB a l<(a+1)*256^l.length:=by
 induction l with
 |nil=>intro a;simp[ofB]
 |cons c l ih=>
  intro a;rw[ofB_cons,List.length_cons,Nat.pow_succ,Nat.mul_comm (256^l.length) 256,<-Nat.mul_assoc];refine Nat.lt_of_lt_of_le (ih _) (Nat.mul_le_mul_right _ ?_);have:=c.toNat_lt;omega
def frameB (t f s:Nat) (p:List UInt8):List UInt8:=be p.length 3++(UInt8.ofNat t::UInt8.ofNat f::(be s 4++p))
theorem frameB_len (t f s:Nat) (p:List UInt8):(frameB t f s p).length=9+p.length:=by
 simp[frameB,be_len];omega
def setB:List (Nat×Nat)->List UInt8
 |[]=>[]
 |s::l=>be s.1 2++(be s.2 4++setB l)
theorem setB_len:∀l:List (Nat×Nat),(setB l).length=6*l.length
 |[]=>rfl
 |s::l=>by simp[setB,be_len,setB_len l];omega
def prefB:List UInt8:=[80,82,73,32,42,32,72,84,84,80,47,50,46,48,13,10,13,10,83,77,13,10,13,10]
end Go.Own.Fr
