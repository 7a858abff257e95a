/-
  
  
-/
set_option linter.unusedSimpArgs false
set_option linter.unusedVariables false
section
namespace Go.Own.Fr
def be (n:Nat):Nat->List UInt8
 |0=>[]
 |k+1=>UInt8.ofNat (n/256^k)::be n k
def ofB (a:Nat) (l:List UInt8):Nat:=l.foldl (λn c=>n*256+c.toNat) a
theorem be_len (n:Nat):∀k,(be n k).length=k
 |0=>rfl
 |k+1=>by simp[be,be_len n k]
theorem ofB_nil (a:Nat):ofB a []=a:=rfl
theorem ofB_cons (a:Nat) (c:UInt8) (l:List UInt8):ofB a (c::l)=ofB (a*256+c.toNat) l:=rfl
theorem ofB_app (a:Nat) (l m:List UInt8):ofB a (l++m)=ofB (ofB a l) m:=by simp[ofB]
theorem ofB_be (a n:Nat):∀k,ofB a (be n k)=a*256^k+n % 256^k
 |0=>by simp[be,ofB,Nat.mod_one]
 |k+1=>by
  have h1:(UInt8.ofNat (n/256^k)).toNat=n/256^k % 256:=by simp
  rw[be,ofB_cons,ofB_be _ n k,h1,Nat.pow_succ,Nat.mod_mul,Nat.add_mul,Nat.mul_assoc,Nat.mul_comm 256 (256^k),Nat.mul_comm (n/256^k % 256) (256^k)];omega
theorem ofB_lt (l:List UInt8):∀a,ofB a l<(a+1)*256^l.length:=by
 induction l with
 |nil=>intro a;simp[ofB]
 |cons c l ih=>
  intro a;rw[ofB_cons,List.length_cons,Nat.pow_succ,Nat.mul_comm (256^l.length) 256,<-Nat.mul_assoc];refine Nat.lt_of_lt_of_le (ih _) (Nat.mul_le_mul_right _ ?_);have:=c.toNat_lt;omega
def frameB (t f s:Nat) (p:List UInt8):List UInt8:=be p.length 3++(UInt8.ofNat t::UInt8.ofNat f::(be s 4++p))
theorem frameB_len (t f s:Nat) (p:List UInt8):(frameB t f s p).length=9+p.length:=by
 simp[frameB,be_len];omega
def setB:List (Nat×Nat)->List UInt8
 |[]=>[]
 |s::l=>be s.1 2++(be s.2 4++setB l)
theorem setB_len:∀l:List (Nat×Nat),(setB l).length=6*l.length
 |[]=>rfl
 |s::l=>by simp[setB,be_len,setB_len l];omega
def prefB:List UInt8:=[80,82,73,32,42,32,72,84,84,80,47,50,46,48,13,10,13,10,83,77,13,10,13,10]
end Go.Own.Fr
end

section
namespace Go.Own.Fr
structure Inf where
 typ:Nat:=0
 flags:Nat:=0
 stream:Nat:=0
 endd:Bool:=false
 endHeads:Bool:=false
 ack:Bool:=false
 padded:Bool:=false
 prio:Bool:=false
 alone:Bool:=false
 pad:Nat:=0
 dep:Nat:=0
 weight:Nat:=0
 code:Nat:=0
 last:Nat:=0
 inc:Nat:=0
 promise:Nat:=0
 sets:List (Nat×Nat):=[]
 data:List UInt8:=[]
def rowOf:Nat->Bool×Bool×Nat
 |0=>(false,true,9)
 |1=>(false,true,45)
 |2=>(false,true,0)
 |3=>(false,true,0)
 |4=>(true,false,1)
 |5=>(false,true,12)
 |6=>(true,false,1)
 |7=>(true,false,0)
 |8=>(true,true,0)
 |9=>(false,true,4)
 |_=>(true,true,0)
def low (n:Nat):Nat:=n % 2147483648
def badSet (s:Nat×Nat):Option Nat:=
 if(s.1=2/\1<s.2)\/(s.1=5/\(s.2<16384\/16777216<=s.2))then some 1 else if s.1=4/\2147483647<s.2 then some 3 else none
def setsOf:List UInt8->Except (Nat×Nat) (List (Nat×Nat))
 |a::b::c::d::e::f::r=>
  match badSet (ofB 0 [a,b],ofB 0 [c,d,e,f])with
  |some k=>.error (k,0)
  |none=>match setsOf r with
   | .ok l=>.ok ((ofB 0 [a,b],ofB 0 [c,d,e,f])::l)
   | .error x=>.error x
 |_=>.ok []
def withDep (i:Inf) (p:List UInt8):Except (Nat×Nat) Inf:=
 let j:={i with alone:=decide (128<=(p.getD 0 0).toNat),dep:=low (ofB 0 (p.take 4)),weight:=(p.getD 4 0).toNat+1}
 if j.dep=j.stream then .error (1,j.stream)else .ok j
def rd (i:Inf) (p:List UInt8):Except (Nat×Nat) Inf:=
 match i.typ with
 |1=>if i.prio=true then(if p.length<5 then .error (6,0)else match withDep i p with
  | .ok j=>.ok {j with data:=p.drop 5}
  | .error x=>.error x)else .ok {i with data:=p}
 |2=>if p.length=5 then withDep i p else .error (6,i.stream)
 |3=>if p.length=4 then .ok {i with code:=ofB 0 p}else .error (6,0)
 |4=>if(i.ack=true/\0<p.length)\/p.length % 6≠0 then .error (6,0)else match setsOf p with
  | .ok l=>.ok {i with sets:=l}
  | .error x=>.error x
 |5=>if p.length<4 then .error (6,0)else if low (ofB 0 (p.take 4))=0 then .error (1,0)else .ok {i with promise:=low (ofB 0 (p.take 4)),data:=p.drop 4}
 |6=>if p.length=8 then .ok {i with data:=p}else .error (6,0)
 |7=>if p.length<8 then .error (6,0)else .ok {i with last:=low (ofB 0 (p.take 4)),code:=ofB 0 ((p.drop 4).take 4),data:=p.drop 8}
 |8=>if p.length=4 then(if low (ofB 0 p)=0 then .error (1,i.stream)else .ok {i with inc:=low (ofB 0 p)})else .error (6,0)
 |_=>.ok {i with data:=p}
def hasF (t f k:Nat):Bool:=(rowOf t).2.2&&& f&&& k != 0
def info0 (t f s:Nat):Inf:=
 {typ:=t,stream:=s,flags:=if t<=9 then 0 else f,endHeads:=hasF t f 4,padded:=hasF t f 8,prio:=hasF t f 32,ack:=(rowOf t).1&&hasF t f 1,endd:= !(rowOf t).1&&hasF t f 1}
def opn (t f s:Nat) (p:List UInt8):Except (Nat×Nat) Inf:=
 if(s=0/\(rowOf t).1=false)\/(s≠0/\(rowOf t).2.1=false)then .error (1,0)
 else if hasF t f 8=true then
  match p with
  |[]=>.error (6,0)
  |c::q=>if p.length<=c.toNat then .error (1,0)else rd {info0 t f s with pad:=c.toNat} (q.take (q.length-c.toNat))
 else rd (info0 t f s) p
def flg (i:Inf):Nat:=i.flags|||((if i.endd||i.ack then 1 else 0)|||((if i.endHeads then 4 else 0)|||((if i.padded then 8 else 0)|||(if i.prio then 32 else 0))))
def pay (i:Inf):List UInt8:=
 match i.typ with
 |3=>be i.code 4
 |4=>setB i.sets
 |7=>be i.last 4++(be i.code 4++i.data)
 |8=>be i.inc 4
 |_=>i.data
theorem setsOf_setB:∀l:List (Nat×Nat),(∀s∈l,s.1<65536/\s.2<4294967296/\badSet s=none)->setsOf (setB l)= .ok l
 |[],_=>rfl
 |s::l,h=>by
  obtain⟨h1,h2,h3⟩:=h s (List.mem_cons_self ..);have e1:ofB 0 [UInt8.ofNat (s.1/256^1),UInt8.ofNat (s.1/256^0)]=s.1:=by
   have:=ofB_be 0 s.1 2;simp only[be]at this;rw[this];omega
  have e2:ofB 0 [UInt8.ofNat (s.2/256^3),UInt8.ofNat (s.2/256^2),UInt8.ofNat (s.2/256^1),UInt8.ofNat (s.2/256^0)]=s.2:=by
   have:=ofB_be 0 s.2 4;simp only[be]at this;rw[this];omega
  have e:setB (s::l)=UInt8.ofNat (s.1/256^1)::UInt8.ofNat (s.1/256^0)::UInt8.ofNat (s.2/256^3)::UInt8.ofNat (s.2/256^2)::UInt8.ofNat (s.2/256^1)::UInt8.ofNat (s.2/256^0)::setB l:=rfl;rw[e,setsOf,e1,e2];have hs:badSet (s.1,s.2)=none:=h3;rw[hs,setsOf_setB l λx hx=>h x (List.mem_cons_of_mem _ hx)]
theorem ofB_be4 (n:Nat) (h:n<4294967296):ofB 0 (be n 4)=n:=by
 rw[ofB_be];omega
theorem opn_data (s:Nat) (hs:s≠0) (e:Bool) (l:List UInt8):opn 0 (if e then 1 else 0) s l= .ok {typ:=0,stream:=s,endd:=e,data:=l}:=by
 cases e<;>simp[opn,rowOf,hasF,info0,rd,hs]
theorem opn_heads (s:Nat) (hs:s≠0) (e eh:Bool) (l:List UInt8):opn 1 ((if e then 1 else 0)|||(if eh then 4 else 0)) s l= .ok {typ:=1,stream:=s,endd:=e,endHeads:=eh,data:=l}:=by
 cases e<;>cases eh<;>simp[opn,rowOf,hasF,info0,rd,hs]
theorem opn_reset (s:Nat) (hs:s≠0) (c:Nat) (hc:c<4294967296):opn 3 0 s (be c 4)= .ok {typ:=3,stream:=s,code:=c}:=by
 simp[opn,rowOf,hasF,info0,rd,hs,be_len,ofB_be4 c hc]
theorem opn_set (l:List (Nat×Nat)) (h:∀s∈l,s.1<65536/\s.2<4294967296/\badSet s=none):opn 4 0 0 (setB l)= .ok {typ:=4,sets:=l}:=by
 simp[opn,rowOf,hasF,info0,rd,setB_len,setsOf_setB l h]
theorem opn_ack:opn 4 1 0 []= .ok {typ:=4,ack:=true}:=by
 simp[opn,rowOf,hasF,info0,rd,setsOf]
theorem opn_ping (a:Bool) (l:List UInt8) (h:l.length=8):opn 6 (if a then 1 else 0) 0 l= .ok {typ:=6,ack:=a,data:=l}:=by
 cases a<;>simp[opn,rowOf,hasF,info0,rd,h]
theorem opn_goaway (n c:Nat) (hn:n<2147483648) (hc:c<4294967296):opn 7 0 0 (be n 4++be c 4)= .ok {typ:=7,last:=n,code:=c}:=by
 have e1:(be n 4++be c 4).take 4=be n 4:=by rw[List.take_append_of_le_length (by simp[be_len]),List.take_of_length_le (by simp[be_len])]
 have e2:(be n 4++be c 4).drop 4=be c 4:=by rw[List.drop_append_of_le_length (by simp[be_len]),List.drop_of_length_le (by simp[be_len])];rfl
 have e3:(be n 4++be c 4).drop 8=[]:=List.drop_of_length_le (by simp[be_len]);have e4:(be c 4).take 4=be c 4:=List.take_of_length_le (by simp[be_len]);have e5:low n=n:=Nat.mod_eq_of_lt hn;simp[opn,rowOf,hasF,info0,rd,be_len,e1,e2,e3,e4,e5,ofB_be4 c hc,ofB_be4 n (by omega)]
end Go.Own.Fr
end
