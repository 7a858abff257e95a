/-
  
  
  
-/
import Derived.Shelf.Small.Utf8
import Derived.Shelf.Small.Strs
import Derived.Shelf.Small.Wraps
import Derived.Shelf.Strconv.Atoi
import Derived.Shelf.Strconv.Itoa0
import Derived.Shelf.Strconv.Itoa1
import Derived.Shelf.LaysM
import Derived.Shelf.Strconv.Itoa2
import Derived.Shelf.Strconv.Itoa3
import Derived.Shelf.Strconv.Clone
import Derived.Shelf.Strconv.SyntaxError
import Derived.Shelf.LaysC
import Derived.Shelf.Strconv.ToError
import Derived.Shelf.Strconv.ErrVar
import Derived.Shelf.Strconv.AtoiAll
import Derived.Shelf.Strconv.ErrVarAll
import Derived.Shelf.Strings.Search1
import Derived.Shelf.Strings.Search2
import Derived.Shelf.Strings.Search3
import Derived.Shelf.Strings.Cut
import Derived.Shelf.Strings.Count
import Derived.Shelf.Strings.Shaped
import Derived.Shelf.Strings.Prefix
import Derived.Shelf.Strings.Split
import Derived.Shelf.Strings.SplitShaped
import Derived.Shelf.Strings.IndexAny
import Derived.Shelf.Strings.AsciiSet
import Derived.Shelf.Strings.IndexAnyAll
import Derived.Shelf.Strings.Explode
import Derived.Shelf.SlIterI.Nil
import Derived.Shelf.SortM.Plain
import Derived.Shelf.SortM.SortNone
import Derived.Ground.GgzProg
import Derived.Ground.SlgmProg
import Derived.Test.YtkpppjhbmnfmkaaGreatDoorProg
set_option linter.unusedSimpArgs false
set_option linter.unusedVariables false
section
namespace Go.Own.Fr
def be (n:Nat):Nat->List UInt8
 |0=>[]
 |k+1=>UInt8.ofNat (n/256^k)::be n k
def ofB (a:Nat) (l:List UInt8):Nat:=l.foldl (λn c=>n*256+c.toNat) a
theorem be_len (n:Nat):∀k,(be n k).length=k
 |0=>rfl
 |k+1=>by simp[be,be_len n k]
theorem ofB_nil (a:Nat):ofB a []=a:=rfl
theorem ofB_cons (a:Nat) (c:UInt8) (l:List UInt8):ofB a (c::l)=ofB (a*256+c.toNat) l:=rfl
theorem ofB_app (a:Nat) (l m:List UInt8):ofB a (l++m)=ofB (ofB a l) m:=by simp[ofB]
theorem ofB_be (a n:Nat):∀k,ofB a (be n k)=a*256^k+n % 256^k
 |0=>by simp[be,ofB,Nat.mod_one]
 |k+1=>by
  have h1:(UInt8.ofNat (n/256^k)).toNat=n/256^k % 256:=by simp
  rw[be,ofB_cons,ofB_be _ n k,h1,Nat.pow_succ,Nat.mod_mul,Nat.add_mul,Nat.mul_assoc,Nat.mul_comm 256 (256^k),Nat.mul_comm (n/256^k % 256) (256^k)];omega
theorem ofB_lt (l:List UInt8):∀a,ofB a l<(a+1)*256^l.length:=by
 induction l with
 |nil=>intro a;simp[ofB]
 |cons c l ih=>
  intro a;rw[ofB_cons,List.length_cons,Nat.pow_succ,Nat.mul_comm (256^l.length) 256,<-Nat.mul_assoc];refine Nat.lt_of_lt_of_le (ih _) (Nat.mul_le_mul_right _ ?_);have:=c.toNat_lt;omega
def frameB (t f s:Nat) (p:List UInt8):List UInt8:=be p.length 3++(UInt8.ofNat t::UInt8.ofNat f::(be s 4++p))
theorem frameB_len (t f s:Nat) (p:List UInt8):(frameB t f s p).length=9+p.length:=by
 simp[frameB,be_len];omega
def setB:List (Nat×Nat)->List UInt8
 |[]=>[]
 |s::l=>be s.1 2++(be s.2 4++setB l)
theorem setB_len:∀l:List (Nat×Nat),(setB l).length=6*l.length
 |[]=>rfl
 |s::l=>by simp[setB,be_len,setB_len l];omega
def prefB:List UInt8:=[80,82,73,32,42,32,72,84,84,80,47,50,46,48,13,10,13,10,83,77,13,10,13,10]
end Go.Own.Fr
end

section
namespace Go.Own.Fr
structure Inf where
 typ:Nat:=0
 flags:Nat:=0
 stream:Nat:=0
 endd:Bool:=false
 endHeads:Bool:=false
 ack:Bool:=false
 padded:Bool:=false
 prio:Bool:=false
 alone:Bool:=false
 pad:Nat:=0
 dep:Nat:=0
 weight:Nat:=0
 code:Nat:=0
 last:Nat:=0
 inc:Nat:=0
 promise:Nat:=0
 sets:List (Nat×Nat):=[]
 data:List UInt8:=[]
def rowOf:Nat->Bool×Bool×Nat
 |0=>(false,true,9)
 |1=>(false,true,45)
 |2=>(false,true,0)
 |3=>(false,true,0)
 |4=>(true,false,1)
 |5=>(false,true,12)
 |6=>(true,false,1)
 |7=>(true,false,0)
 |8=>(true,true,0)
 |9=>(false,true,4)
 |_=>(true,true,0)
def low (n:Nat):Nat:=n % 2147483648
def badSet (s:Nat×Nat):Option Nat:=
 if(s.1=2/\1<s.2)\/(s.1=5/\(s.2<16384\/16777216<=s.2))then some 1 else if s.1=4/\2147483647<s.2 then some 3 else none
def setsOf:List UInt8->Except (Nat×Nat) (List (Nat×Nat))
 |a::b::c::d::e::f::r=>
  match badSet (ofB 0 [a,b],ofB 0 [c,d,e,f])with
  |some k=>.error (k,0)
  |none=>match setsOf r with
   | .ok l=>.ok ((ofB 0 [a,b],ofB 0 [c,d,e,f])::l)
   | .error x=>.error x
 |_=>.ok []
def withDep (i:Inf) (p:List UInt8):Except (Nat×Nat) Inf:=
 let j:={i with alone:=decide (128<=(p.getD 0 0).toNat),dep:=low (ofB 0 (p.take 4)),weight:=(p.getD 4 0).toNat+1}
 if j.dep=j.stream then .error (1,j.stream)else .ok j
def rd (i:Inf) (p:List UInt8):Except (Nat×Nat) Inf:=
 match i.typ with
 |1=>if i.prio=true then(if p.length<5 then .error (6,0)else match withDep i p with
  | .ok j=>.ok {j with data:=p.drop 5}
  | .error x=>.error x)else .ok {i with data:=p}
 |2=>if p.length=5 then withDep i p else .error (6,i.stream)
 |3=>if p.length=4 then .ok {i with code:=ofB 0 p}else .error (6,0)
 |4=>if(i.ack=true/\0<p.length)\/p.length % 6≠0 then .error (6,0)else match setsOf p with
  | .ok l=>.ok {i with sets:=l}
  | .error x=>.error x
 |5=>if p.length<4 then .error (6,0)else if low (ofB 0 (p.take 4))=0 then .error (1,0)else .ok {i with promise:=low (ofB 0 (p.take 4)),data:=p.drop 4}
 |6=>if p.length=8 then .ok {i with data:=p}else .error (6,0)
 |7=>if p.length<8 then .error (6,0)else .ok {i with last:=low (ofB 0 (p.take 4)),code:=ofB 0 ((p.drop 4).take 4),data:=p.drop 8}
 |8=>if p.length=4 then(if low (ofB 0 p)=0 then .error (1,i.stream)else .ok {i with inc:=low (ofB 0 p)})else .error (6,0)
 |_=>.ok {i with data:=p}
def hasF (t f k:Nat):Bool:=(rowOf t).2.2&&& f&&& k != 0
def info0 (t f s:Nat):Inf:=
 {typ:=t,stream:=s,flags:=if t<=9 then 0 else f,endHeads:=hasF t f 4,padded:=hasF t f 8,prio:=hasF t f 32,ack:=(rowOf t).1&&hasF t f 1,endd:= !(rowOf t).1&&hasF t f 1}
def opn (t f s:Nat) (p:List UInt8):Except (Nat×Nat) Inf:=
 if(s=0/\(rowOf t).1=false)\/(s≠0/\(rowOf t).2.1=false)then .error (1,0)
 else if hasF t f 8=true then
  match p with
  |[]=>.error (6,0)
  |c::q=>if p.length<=c.toNat then .error (1,0)else rd {info0 t f s with pad:=c.toNat} (q.take (q.length-c.toNat))
 else rd (info0 t f s) p
def flg (i:Inf):Nat:=i.flags|||((if i.endd||i.ack then 1 else 0)|||((if i.endHeads then 4 else 0)|||((if i.padded then 8 else 0)|||(if i.prio then 32 else 0))))
def pay (i:Inf):List UInt8:=
 match i.typ with
 |3=>be i.code 4
 |4=>setB i.sets
 |7=>be i.last 4++(be i.code 4++i.data)
 |8=>be i.inc 4
 |_=>i.data
theorem setsOf_setB:∀l:List (Nat×Nat),(∀s∈l,s.1<65536/\s.2<4294967296/\badSet s=none)->setsOf (setB l)= .ok l
 |[],_=>rfl
 |s::l,h=>by
  obtain⟨h1,h2,h3⟩:=h s (List.mem_cons_self ..);have e1:ofB 0 [UInt8.ofNat (s.1/256^1),UInt8.ofNat (s.1/256^0)]=s.1:=by
   have:=ofB_be 0 s.1 2;simp only[be]at this;rw[this];omega
  have e2:ofB 0 [UInt8.ofNat (s.2/256^3),UInt8.ofNat (s.2/256^2),UInt8.ofNat (s.2/256^1),UInt8.ofNat (s.2/256^0)]=s.2:=by
   have:=ofB_be 0 s.2 4;simp only[be]at this;rw[this];omega
  have e:setB (s::l)=UInt8.ofNat (s.1/256^1)::UInt8.ofNat (s.1/256^0)::UInt8.ofNat (s.2/256^3)::UInt8.ofNat (s.2/256^2)::UInt8.ofNat (s.2/256^1)::UInt8.ofNat (s.2/256^0)::setB l:=rfl;rw[e,setsOf,e1,e2];have hs:badSet (s.1,s.2)=none:=h3;rw[hs,setsOf_setB l λx hx=>h x (List.mem_cons_of_mem _ hx)]
theorem ofB_be4 (n:Nat) (h:n<4294967296):ofB 0 (be n 4)=n:=by
 rw[ofB_be];omega
theorem opn_data (s:Nat) (hs:s≠0) (e:Bool) (l:List UInt8):opn 0 (if e then 1 else 0) s l= .ok {typ:=0,stream:=s,endd:=e,data:=l}:=by
 cases e<;>simp[opn,rowOf,hasF,info0,rd,hs]
theorem opn_heads (s:Nat) (hs:s≠0) (e eh:Bool) (l:List UInt8):opn 1 ((if e then 1 else 0)|||(if eh then 4 else 0)) s l= .ok {typ:=1,stream:=s,endd:=e,endHeads:=eh,data:=l}:=by
 cases e<;>cases eh<;>simp[opn,rowOf,hasF,info0,rd,hs]
theorem opn_reset (s:Nat) (hs:s≠0) (c:Nat) (hc:c<4294967296):opn 3 0 s (be c 4)= .ok {typ:=3,stream:=s,code:=c}:=by
 simp[opn,rowOf,hasF,info0,rd,hs,be_len,ofB_be4 c hc]
theorem opn_set (l:List (Nat×Nat)) (h:∀s∈l,s.1<65536/\s.2<4294967296/\badSet s=none):opn 4 0 0 (setB l)= .ok {typ:=4,sets:=l}:=by
 simp[opn,rowOf,hasF,info0,rd,setB_len,setsOf_setB l h]
theorem opn_ack:opn 4 1 0 []= .ok {typ:=4,ack:=true}:=by
 simp[opn,rowOf,hasF,info0,rd,setsOf]
theorem opn_ping (a:Bool) (l:List UInt8) (h:l.length=8):opn 6 (if a then 1 else 0) 0 l= .ok {typ:=6,ack:=a,data:=l}:=by
 cases a<;>simp[opn,rowOf,hasF,info0,rd,h]
theorem opn_goaway (n c:Nat) (hn:n<2147483648) (hc:c<4294967296):opn 7 0 0 (be n 4++be c 4)= .ok {typ:=7,last:=n,code:=c}:=by
 have e1:(be n 4++be c 4).take 4=be n 4:=by rw[List.take_append_of_le_length (by simp[be_len]),List.take_of_length_le (by simp[be_len])]
 have e2:(be n 4++be c 4).drop 4=be c 4:=by rw[List.drop_append_of_le_length (by simp[be_len]),List.drop_of_length_le (by simp[be_len])];rfl
 have e3:(be n 4++be c 4).drop 8=[]:=List.drop_of_length_le (by simp[be_len]);have e4:(be c 4).take 4=be c 4:=List.take_of_length_le (by simp[be_len]);have e5:low n=n:=Nat.mod_eq_of_lt hn;simp[opn,rowOf,hasF,info0,rd,be_len,e1,e2,e3,e4,e5,ofB_be4 c hc,ofB_be4 n (by omega)]
theorem opn_window (s n:Nat) (h0:0<n) (hn:n<2147483648):opn 8 0 s (be n 4)= .ok {typ:=8,stream:=s,inc:=n}:=by
 have e5:low n=n:=Nat.mod_eq_of_lt hn;have e6:n≠0:=by omega
 simp[opn,rowOf,hasF,info0,rd,be_len,ofB_be4 n (by omega),e5,e6]
end Go.Own.Fr
end

section
namespace Go.Proofs
open Go.Shelf
def Tryz.lays119_ren:Go.Shelf.Ren:=⟨fun|119=>250|n=>n,fun|21=>21|4=>4|n=>n,fun|n=>n⟩
theorem Tryz.lays119:Go.Proofs.Lays.n119 Tryz.prog Tryz.lays119_ren:={
 mixed:=by kernel_rfl
 f119:=Tryz.func250.trans (congrArg some (by kernel_rfl))
 t4:=Tryz.underlying4
 a4:=Tryz.isAgg4
 z4:=Tryz.sizeOf4
 v4:=Tryz.zeroValue4
 t21:=Tryz.underlying21
 a21:=Tryz.isAgg21
 z21:=Tryz.sizeOf21
 v21:=Tryz.zeroValue21}
theorem Tryz.utf8_ValidRune (r:Int) (w:World):
 Calls Tryz.prog 250 #[.int .i32 r] w λe w'=>e= .returned (.bool (Lib.validRune r))/\w'=w:=Any.utf8_ValidRune Tryz.lays119 r w
def Tryz.lays137_ren:Go.Shelf.Ren:=⟨fun|137=>249|217=>261|266=>271|n=>n,fun|9=>9|5=>5|3=>3|n=>n,fun|n=>n⟩
theorem Tryz.lays137:Go.Proofs.Lays.n137 Tryz.prog Tryz.lays137_ren:={
 mixed:=by kernel_rfl
 f137:=Tryz.func249.trans (congrArg some (by kernel_rfl))
 f217:=Tryz.func261.trans (congrArg some (by kernel_rfl))
 f266:=Tryz.func271.trans (congrArg some (by kernel_rfl))
 t3:=Tryz.underlying3
 a3:=Tryz.isAgg3
 z3:=Tryz.sizeOf3
 v3:=Tryz.zeroValue3
 t5:=Tryz.underlying5
 a5:=Tryz.isAgg5
 z5:=Tryz.sizeOf5
 v5:=Tryz.zeroValue5
 t9:=Tryz.underlying9
 a9:=Tryz.isAgg9
 z9:=Tryz.sizeOf9
 v9:=Tryz.zeroValue9}
open Go.RowKit in
theorem Tryz.strings_IndexByte (s:ByteArray) (c:Int) (w:World):
 Calls Tryz.prog 249 #[.string s,.int .u8 c] w λe w'=>e= .returned (.int .i64 (Lib.indexByte s.data.toList c.toNat.toUInt8))/\w'=w:=Any.strings_IndexByte Tryz.lays137 s c w
def Tryz.lays215_ren:Go.Shelf.Ren:=⟨fun|215=>226|n=>n,fun|3=>3|4=>4|n=>n,fun|n=>n⟩
def Tryz.lays219_ren:Go.Shelf.Ren:=⟨fun|219=>262|217=>261|225=>252|224=>251|267=>272|266=>271|314=>283|n=>n,fun|9=>9|3=>3|4=>4|5=>5|46=>101|146=>318|51=>229|n=>n,fun|1=>13|n=>n⟩
def Tryz.lays144_ren:Go.Shelf.Ren:=⟨fun|144=>231|143=>253|219=>262|217=>261|225=>252|224=>251|267=>272|266=>271|314=>283|n=>n,fun|9=>9|4=>4|3=>3|5=>5|46=>101|146=>318|51=>229|n=>n,fun|1=>13|n=>n⟩
theorem Tryz.lays144:Go.Proofs.Lays.n144 Tryz.prog Tryz.lays144_ren:={
 mixed:=by kernel_rfl
 f143:=Tryz.func253.trans (congrArg some (by kernel_rfl))
 f144:=Tryz.func231.trans (congrArg some (by kernel_rfl))
 f217:=Tryz.func261.trans (congrArg some (by kernel_rfl))
 f219:=Tryz.func262.trans (congrArg some (by kernel_rfl))
 f224:=Tryz.func251.trans (congrArg some (by kernel_rfl))
 f225:=Tryz.func252.trans (congrArg some (by kernel_rfl))
 f266:=Tryz.func271.trans (congrArg some (by kernel_rfl))
 f267:=Tryz.func272.trans (congrArg some (by kernel_rfl))
 f314:=Tryz.func283.trans (congrArg some (by kernel_rfl))
 t3:=Tryz.underlying3
 a3:=Tryz.isAgg3
 z3:=Tryz.sizeOf3
 v3:=Tryz.zeroValue3
 t4:=Tryz.underlying4
 a4:=Tryz.isAgg4
 z4:=Tryz.sizeOf4
 v4:=Tryz.zeroValue4
 t5:=Tryz.underlying5
 a5:=Tryz.isAgg5
 z5:=Tryz.sizeOf5
 v5:=Tryz.zeroValue5
 t9:=Tryz.underlying9
 a9:=Tryz.isAgg9
 z9:=Tryz.sizeOf9
 v9:=Tryz.zeroValue9
 t46:=Tryz.underlying101
 a46:=Tryz.isAgg101
 z46:=Tryz.sizeOf101
 v46:=Tryz.zeroValue101
 t51:=Tryz.underlying229
 a51:=Tryz.isAgg229
 z51:=Tryz.sizeOf229
 v51:=Tryz.zeroValue229
 t146:=Tryz.underlying318
 a146:=Tryz.isAgg318
 z146:=Tryz.sizeOf318
 v146:=Tryz.zeroValue318
 g1:=by kernel_rfl}
open Go.RowKit Go.Lib in
theorem Tryz.strings_Contains (s sub:ByteArray) (m:Int) (w:World) (hs:s.size<4294967281) (hm:w.cell? ⟨13,0,none⟩=some (.int .i64 m)):
 Calls Tryz.prog 231 #[.string s,.string sub] w λe w'=>e= .returned (.bool (Lib.contains s.data.toList sub.data.toList))/\w'=w:=Any.strings_Contains Tryz.lays144 s sub m w hs hm
def Tryz.lays145_ren:Go.Shelf.Ren:=⟨fun|145=>232|220=>254|219=>262|217=>261|225=>252|224=>251|267=>272|266=>271|314=>283|n=>n,fun|9=>9|4=>4|59=>276|3=>3|5=>5|46=>101|146=>318|51=>229|n=>n,fun|1=>13|n=>n⟩
theorem Tryz.lays145:Go.Proofs.Lays.n145 Tryz.prog Tryz.lays145_ren:={
 mixed:=by kernel_rfl
 f145:=Tryz.func232.trans (congrArg some (by kernel_rfl))
 f217:=Tryz.func261.trans (congrArg some (by kernel_rfl))
 f219:=Tryz.func262.trans (congrArg some (by kernel_rfl))
 f220:=Tryz.func254.trans (congrArg some (by kernel_rfl))
 f224:=Tryz.func251.trans (congrArg some (by kernel_rfl))
 f225:=Tryz.func252.trans (congrArg some (by kernel_rfl))
 f266:=Tryz.func271.trans (congrArg some (by kernel_rfl))
 f267:=Tryz.func272.trans (congrArg some (by kernel_rfl))
 f314:=Tryz.func283.trans (congrArg some (by kernel_rfl))
 t3:=Tryz.underlying3
 a3:=Tryz.isAgg3
 z3:=Tryz.sizeOf3
 v3:=Tryz.zeroValue3
 t4:=Tryz.underlying4
 a4:=Tryz.isAgg4
 z4:=Tryz.sizeOf4
 v4:=Tryz.zeroValue4
 t5:=Tryz.underlying5
 a5:=Tryz.isAgg5
 z5:=Tryz.sizeOf5
 v5:=Tryz.zeroValue5
 t9:=Tryz.underlying9
 a9:=Tryz.isAgg9
 z9:=Tryz.sizeOf9
 v9:=Tryz.zeroValue9
 t46:=Tryz.underlying101
 a46:=Tryz.isAgg101
 z46:=Tryz.sizeOf101
 v46:=Tryz.zeroValue101
 t51:=Tryz.underlying229
 a51:=Tryz.isAgg229
 z51:=Tryz.sizeOf229
 v51:=Tryz.zeroValue229
 t59:=Tryz.underlying276
 a59:=Tryz.isAgg276
 z59:=Tryz.sizeOf276
 v59:=Tryz.zeroValue276
 t146:=Tryz.underlying318
 a146:=Tryz.isAgg318
 z146:=Tryz.sizeOf318
 v146:=Tryz.zeroValue318
 g1:=by kernel_rfl}
open Go.RowKit Go.Lib in
theorem Tryz.strings_Cut (s sep:ByteArray) (m:Int) (w:World) (hs:s.size<4294967281) (hm:w.cell? ⟨13,0,none⟩=some (.int .i64 m)):
 Calls Tryz.prog 232 #[.string s,.string sep] w λe w'=>e= .returned (.tuple #[.string ⟨(Lib.cut s.data.toList sep.data.toList).1.toArray⟩,.string ⟨(Lib.cut s.data.toList sep.data.toList).2.1.toArray⟩,.bool (Lib.cut s.data.toList sep.data.toList).2.2])/\∃n,w'=w.drewN n:=Any.strings_Cut Tryz.lays145 s sep m w hs hm
def Tryz.lays206_ren:Go.Shelf.Ren:=⟨fun|206=>134|n=>n,fun|9=>9|4=>4|3=>3|n=>n,fun|n=>n⟩
def Tryz.lays99_ren:Go.Shelf.Ren:=⟨fun|99=>92|206=>134|n=>n,fun|9=>9|4=>4|3=>3|n=>n,fun|n=>n⟩
theorem Tryz.lays99:Go.Proofs.Lays.n99 Tryz.prog Tryz.lays99_ren:={
 mixed:=by kernel_rfl
 f99:=Tryz.func92.trans (congrArg some (by kernel_rfl))
 f206:=Tryz.func134.trans (congrArg some (by kernel_rfl))
 t3:=Tryz.underlying3
 a3:=Tryz.isAgg3
 z3:=Tryz.sizeOf3
 v3:=Tryz.zeroValue3
 t4:=Tryz.underlying4
 a4:=Tryz.isAgg4
 z4:=Tryz.sizeOf4
 v4:=Tryz.zeroValue4
 t9:=Tryz.underlying9
 a9:=Tryz.isAgg9
 z9:=Tryz.sizeOf9
 v9:=Tryz.zeroValue9}
open Go.RowKit Go.Lib in
theorem Tryz.strings_HasPrefix (s p:ByteArray) (w:World):
 Calls Tryz.prog 92 #[.string s,.string p] w λe w'=>e= .returned (.bool (Lib.hasPrefix s.data.toList p.data.toList))/\w'=w:=Any.strings_HasPrefix Tryz.lays99 s p w
def Tryz.lays221_ren:Go.Shelf.Ren:=⟨fun|221=>263|268=>273|138=>274|143=>253|195=>284|197=>285|218=>286|219=>262|260=>293|217=>261|225=>252|224=>251|267=>272|266=>271|314=>283|n=>n,fun|9=>9|3=>3|31=>109|4=>4|0=>0|105=>320|21=>21|5=>5|46=>101|119=>333|139=>336|138=>335|146=>318|51=>229|n=>n,fun|1=>13|3=>18|4=>19|n=>n⟩
def Tryz.lays146_ren:Go.Shelf.Ren:=⟨fun|146=>255|221=>263|268=>273|138=>274|143=>253|195=>284|197=>285|218=>286|219=>262|260=>293|217=>261|225=>252|224=>251|267=>272|266=>271|314=>283|n=>n,fun|9=>9|31=>109|3=>3|4=>4|0=>0|105=>320|21=>21|5=>5|46=>101|119=>333|139=>336|138=>335|146=>318|51=>229|n=>n,fun|1=>13|3=>18|4=>19|n=>n⟩
theorem Tryz.lays146:Go.Proofs.Lays.n146 Tryz.prog Tryz.lays146_ren:={
 mixed:=by kernel_rfl
 f138:=Tryz.func274.trans (congrArg some (by kernel_rfl))
 f143:=Tryz.func253.trans (congrArg some (by kernel_rfl))
 f146:=Tryz.func255.trans (congrArg some (by kernel_rfl))
 f195:=Tryz.func284.trans (congrArg some (by kernel_rfl))
 f197:=Tryz.func285.trans (congrArg some (by kernel_rfl))
 f217:=Tryz.func261.trans (congrArg some (by kernel_rfl))
 f218:=Tryz.func286.trans (congrArg some (by kernel_rfl))
 f219:=Tryz.func262.trans (congrArg some (by kernel_rfl))
 f221:=Tryz.func263.trans (congrArg some (by kernel_rfl))
 f224:=Tryz.func251.trans (congrArg some (by kernel_rfl))
 f225:=Tryz.func252.trans (congrArg some (by kernel_rfl))
 f260:=Tryz.func293.trans (congrArg some (by kernel_rfl))
 f266:=Tryz.func271.trans (congrArg some (by kernel_rfl))
 f267:=Tryz.func272.trans (congrArg some (by kernel_rfl))
 f268:=Tryz.func273.trans (congrArg some (by kernel_rfl))
 f314:=Tryz.func283.trans (congrArg some (by kernel_rfl))
 t0:=Tryz.underlying0
 a0:=Tryz.isAgg0
 z0:=Tryz.sizeOf0
 v0:=Tryz.zeroValue0
 t3:=Tryz.underlying3
 a3:=Tryz.isAgg3
 z3:=Tryz.sizeOf3
 v3:=Tryz.zeroValue3
 t4:=Tryz.underlying4
 a4:=Tryz.isAgg4
 z4:=Tryz.sizeOf4
 v4:=Tryz.zeroValue4
 t5:=Tryz.underlying5
 a5:=Tryz.isAgg5
 z5:=Tryz.sizeOf5
 v5:=Tryz.zeroValue5
 t9:=Tryz.underlying9
 a9:=Tryz.isAgg9
 z9:=Tryz.sizeOf9
 v9:=Tryz.zeroValue9
 t21:=Tryz.underlying21
 a21:=Tryz.isAgg21
 z21:=Tryz.sizeOf21
 v21:=Tryz.zeroValue21
 t31:=Tryz.underlying109
 a31:=Tryz.isAgg109
 z31:=Tryz.sizeOf109
 v31:=Tryz.zeroValue109
 t46:=Tryz.underlying101
 a46:=Tryz.isAgg101
 z46:=Tryz.sizeOf101
 v46:=Tryz.zeroValue101
 t51:=Tryz.underlying229
 a51:=Tryz.isAgg229
 z51:=Tryz.sizeOf229
 v51:=Tryz.zeroValue229
 t105:=Tryz.underlying320
 a105:=Tryz.isAgg320
 z105:=Tryz.sizeOf320
 v105:=Tryz.zeroValue320
 t119:=Tryz.underlying333
 a119:=Tryz.isAgg333
 z119:=Tryz.sizeOf333
 t138:=Tryz.underlying335
 a138:=Tryz.isAgg335
 z138:=Tryz.sizeOf335
 v138:=Tryz.zeroValue335
 t139:=Tryz.underlying336
 a139:=Tryz.isAgg336
 z139:=Tryz.sizeOf336
 v139:=Tryz.zeroValue336
 t146:=Tryz.underlying318
 a146:=Tryz.isAgg318
 z146:=Tryz.sizeOf318
 v146:=Tryz.zeroValue318
 g1:=by kernel_rfl
 g3:=by kernel_rfl
 g4:=by kernel_rfl}
open Go.RowKit Go.Lib in
theorem Tryz.strings_Split (s sep:ByteArray) (m:Int) (w:World) (hs:s.size<4294967281) (hm:w.cell? ⟨13,0,none⟩=some (.int .i64 m)) (h1:1<=sep.size):
 Calls Tryz.prog 255 #[.string s,.string sep] w λe w'=>
  e= .returned (.slice (some ⟨w.heap.size,0,none⟩) (Lib.countB s sep+1) (Lib.countB s sep+1))/\w'=w.alloc (.cells ((Lib.splitB sep 0 (Lib.countB s sep) s).map Value.string).toArray 9):=Any.strings_Split Tryz.lays146 (by kernel_rfl) s sep m w hs hm h1
def Tryz.lays226_ren:Go.Shelf.Ren:=⟨fun|226=>228|n=>n,fun|3=>3|4=>4|n=>n,fun|n=>n⟩
theorem Tryz.lays226:Go.Proofs.Lays.n226 Tryz.prog Tryz.lays226_ren:={
 mixed:=by kernel_rfl
 f226:=Tryz.func228.trans (congrArg some (by kernel_rfl))
 t3:=Tryz.underlying3
 a3:=Tryz.isAgg3
 z3:=Tryz.sizeOf3
 v3:=Tryz.zeroValue3
 t4:=Tryz.underlying4
 a4:=Tryz.isAgg4
 z4:=Tryz.sizeOf4
 v4:=Tryz.zeroValue4}
open Go.RowKit Go.Lib in
theorem Tryz.strings_shouldUseASCIISet (n:Int) (w:World):
 Calls Tryz.prog 228 #[.int .i64 n] w λe w'=>e= .returned (.bool (decide (8<n)))/\w'=w:=Any.strings_shouldUseASCIISet Tryz.lays226 n w
def Tryz.lays153_ren:Go.Shelf.Ren:=⟨fun|153=>210|152=>227|226=>228|227=>229|228=>230|137=>249|119=>250|224=>251|225=>252|217=>261|266=>271|n=>n,fun|9=>9|3=>3|4=>4|5=>5|21=>21|117=>274|116=>273|0=>0|46=>101|124=>290|n=>n,fun|n=>n⟩
theorem Tryz.lays153:Go.Proofs.Lays.n153 Tryz.prog Tryz.lays153_ren:={
 mixed:=by kernel_rfl
 f119:=Tryz.func250.trans (congrArg some (by kernel_rfl))
 f137:=Tryz.func249.trans (congrArg some (by kernel_rfl))
 f152:=Tryz.func227.trans (congrArg some (by kernel_rfl))
 f153:=Tryz.func210.trans (congrArg some (by kernel_rfl))
 f217:=Tryz.func261.trans (congrArg some (by kernel_rfl))
 f224:=Tryz.func251.trans (congrArg some (by kernel_rfl))
 f225:=Tryz.func252.trans (congrArg some (by kernel_rfl))
 f226:=Tryz.func228.trans (congrArg some (by kernel_rfl))
 f227:=Tryz.func229.trans (congrArg some (by kernel_rfl))
 f228:=Tryz.func230.trans (congrArg some (by kernel_rfl))
 f266:=Tryz.func271.trans (congrArg some (by kernel_rfl))
 t0:=Tryz.underlying0
 a0:=Tryz.isAgg0
 z0:=Tryz.sizeOf0
 v0:=Tryz.zeroValue0
 t3:=Tryz.underlying3
 a3:=Tryz.isAgg3
 z3:=Tryz.sizeOf3
 v3:=Tryz.zeroValue3
 t4:=Tryz.underlying4
 a4:=Tryz.isAgg4
 z4:=Tryz.sizeOf4
 v4:=Tryz.zeroValue4
 t5:=Tryz.underlying5
 a5:=Tryz.isAgg5
 z5:=Tryz.sizeOf5
 v5:=Tryz.zeroValue5
 t9:=Tryz.underlying9
 a9:=Tryz.isAgg9
 z9:=Tryz.sizeOf9
 v9:=Tryz.zeroValue9
 t21:=Tryz.underlying21
 a21:=Tryz.isAgg21
 z21:=Tryz.sizeOf21
 v21:=Tryz.zeroValue21
 t46:=Tryz.underlying101
 a46:=Tryz.isAgg101
 z46:=Tryz.sizeOf101
 v46:=Tryz.zeroValue101
 t116:=Tryz.underlying273
 a116:=Tryz.isAgg273
 z116:=Tryz.sizeOf273
 t117:=Tryz.underlying274
 a117:=Tryz.isAgg274
 z117:=Tryz.sizeOf274
 v117:=Tryz.zeroValue274
 t124:=Tryz.underlying290
 a124:=Tryz.isAgg290
 z124:=Tryz.sizeOf290
 v124:=Tryz.zeroValue290}
open Go.RowKit Go.Lib in
theorem Tryz.strings_IndexAny_long (h1:∀w,(zeroValue 273).run Tryz.prog w= .ok (.agg (Array.replicate 256 (.bool false))) w) (s chars:ByteArray) (w:World) (h2:2<=chars.size) (h8:8<s.size) (hs:s.size<4294967281) (h3:chars.size<4294967281) (h0:∀(j:Nat) b,chars.data.toList[j]?=some b->b.toNat<128):
 Calls Tryz.prog 210 #[.string s,.string chars] w λe w'=>e= .returned (.int .i64 (Lib.indexAny s.data.toList chars.data.toList))/\w'=((w.alloc (.cells (Lib.setCells chars.data.toList) 273)).alloc (.cells (Lib.setCells chars.data.toList) 273)):=Any.strings_IndexAny_long Tryz.lays153 h1 (by kernel_rfl) s chars w h2 h8 hs h3 h0
def Tryz.keysA_ren:Go.Shelf.Ren:=⟨fun|7=>74|10=>118|n=>n,fun|23=>74|26=>3|3=>93|28=>152|0=>0|27=>151|33=>157|4=>4|n=>n,fun|n=>n⟩
theorem Tryz.keysA:Go.Proofs.SlLaysZI.n7 Tryz.prog Tryz.keysA_ren:={
 mixed:=by kernel_rfl
 f7:=⟨Tryz.f74.name,by decide,Tryz.func74.trans (congrArg some (by kernel_rfl))⟩
 f10:=⟨Tryz.f118.name,by decide,Tryz.func118.trans (congrArg some (by kernel_rfl))⟩
 t0:=Tryz.underlying0
 a0:=Tryz.isAgg0
 z0:=Tryz.sizeOf0
 v0:=Tryz.zeroValue0
 t4:=Tryz.underlying4
 a4:=Tryz.isAgg4
 z4:=Tryz.sizeOf4
 v4:=Tryz.zeroValue4
 t23:=Tryz.underlying74
 a23:=Tryz.isAgg74
 z23:=Tryz.sizeOf74
 v23:=Tryz.zeroValue74
 t26:=Tryz.underlying3
 a26:=Tryz.isAgg3
 z26:=Tryz.sizeOf3
 v26:=Tryz.zeroValue3
 t27:=Tryz.underlying151
 a27:=Tryz.isAgg151
 z27:=Tryz.sizeOf151
 v27:=Tryz.zeroValue151
 t28:=Tryz.underlying152
 a28:=Tryz.isAgg152
 z28:=Tryz.sizeOf152
 v28:=Tryz.zeroValue152
 t33:=Tryz.underlying157
 a33:=Tryz.isAgg157
 z33:=Tryz.sizeOf157
 v33:=Tryz.zeroValue157}
def Tryz.sortedA_ren:Go.Shelf.Ren:=⟨fun|6=>73|8=>116|9=>117|11=>160|13=>162|12=>161|23=>208|24=>209|14=>199|15=>200|16=>201|17=>202|18=>203|19=>204|20=>205|21=>206|22=>207|25=>221|26=>222|27=>223|28=>224|29=>225|30=>226|31=>248|n=>n,fun|26=>3|28=>152|24=>46|0=>0|3=>3|37=>101|48=>229|50=>228|4=>4|40=>240|39=>239|45=>39|5=>5|9=>9|51=>265|55=>269|57=>285|58=>286|33=>157|n=>n,fun|n=>n⟩
theorem Tryz.sortedA:Go.Proofs.SlLaysZI.n6 Tryz.prog Tryz.sortedA_ren:={
 mixed:=by kernel_rfl
 f6:=⟨Tryz.f73.name,by decide,Tryz.func73.trans (congrArg some (by kernel_rfl))⟩
 f8:=⟨Tryz.f116.name,by decide,Tryz.func116.trans (congrArg some (by kernel_rfl))⟩
 f11:=⟨Tryz.f160.name,by decide,Tryz.func160.trans (congrArg some (by kernel_rfl))⟩
 t0:=Tryz.underlying0
 a0:=Tryz.isAgg0
 z0:=Tryz.sizeOf0
 v0:=Tryz.zeroValue0
 t24:=Tryz.underlying46
 a24:=Tryz.isAgg46
 z24:=Tryz.sizeOf46
 v24:=Tryz.zeroValue46
 t26:=Tryz.underlying3
 a26:=Tryz.isAgg3
 z26:=Tryz.sizeOf3
 v26:=Tryz.zeroValue3
 t28:=Tryz.underlying152
 a28:=Tryz.isAgg152
 z28:=Tryz.sizeOf152
 v28:=Tryz.zeroValue152
 i26:=by kernel_rfl}
def Tryz.sortA_ren:Go.Shelf.Ren:=⟨fun|5=>117|8=>162|7=>161|19=>208|20=>209|10=>199|11=>200|12=>201|13=>202|14=>203|15=>204|16=>205|17=>206|18=>207|30=>221|31=>222|32=>223|33=>224|34=>225|35=>226|40=>248|n=>n,fun|23=>46|25=>3|3=>3|32=>101|22=>46|0=>0|44=>229|46=>228|4=>4|36=>240|35=>239|41=>39|5=>5|9=>9|53=>265|57=>269|63=>285|64=>286|n=>n,fun|n=>n⟩
theorem Tryz.sortA:Go.Proofs.SlLaysM.n5 Tryz.prog Tryz.sortA_ren:={
 mixed:=by kernel_rfl
 f5:=⟨Tryz.f117.name,by decide,Tryz.func117.trans (congrArg some (by kernel_rfl))⟩
 f7:=⟨Tryz.f161.name,by decide,Tryz.func161.trans (congrArg some (by kernel_rfl))⟩
 f8:=Tryz.func162.trans (congrArg some (by kernel_rfl))
 f10:=⟨Tryz.f199.name,by decide,Tryz.func199.trans (congrArg some (by kernel_rfl))⟩
 f11:=⟨Tryz.f200.name,by decide,Tryz.func200.trans (congrArg some (by kernel_rfl))⟩
 f12:=⟨Tryz.f201.name,by decide,Tryz.func201.trans (congrArg some (by kernel_rfl))⟩
 f13:=⟨Tryz.f202.name,by decide,Tryz.func202.trans (congrArg some (by kernel_rfl))⟩
 f14:=⟨Tryz.f203.name,by decide,Tryz.func203.trans (congrArg some (by kernel_rfl))⟩
 f15:=⟨Tryz.f204.name,by decide,Tryz.func204.trans (congrArg some (by kernel_rfl))⟩
 f16:=⟨Tryz.f205.name,by decide,Tryz.func205.trans (congrArg some (by kernel_rfl))⟩
 f17:=⟨Tryz.f206.name,by decide,Tryz.func206.trans (congrArg some (by kernel_rfl))⟩
 f18:=⟨Tryz.f207.name,by decide,Tryz.func207.trans (congrArg some (by kernel_rfl))⟩
 f19:=Tryz.func208.trans (congrArg some (by kernel_rfl))
 f20:=Tryz.func209.trans (congrArg some (by kernel_rfl))
 f30:=⟨Tryz.f221.name,by decide,Tryz.func221.trans (congrArg some (by kernel_rfl))⟩
 f31:=Tryz.func222.trans (congrArg some (by kernel_rfl))
 f32:=Tryz.func223.trans (congrArg some (by kernel_rfl))
 f33:=⟨Tryz.f224.name,by decide,Tryz.func224.trans (congrArg some (by kernel_rfl))⟩
 f34:=⟨Tryz.f225.name,by decide,Tryz.func225.trans (congrArg some (by kernel_rfl))⟩
 f35:=⟨Tryz.f226.name,by decide,Tryz.func226.trans (congrArg some (by kernel_rfl))⟩
 f40:=⟨Tryz.f248.name,by decide,Tryz.func248.trans (congrArg some (by kernel_rfl))⟩
 t0:=Tryz.underlying0
 a0:=Tryz.isAgg0
 z0:=Tryz.sizeOf0
 v0:=Tryz.zeroValue0
 t3:=Tryz.underlying3
 a3:=Tryz.isAgg3
 z3:=Tryz.sizeOf3
 v3:=Tryz.zeroValue3
 t4:=Tryz.underlying4
 a4:=Tryz.isAgg4
 z4:=Tryz.sizeOf4
 v4:=Tryz.zeroValue4
 t5:=Tryz.underlying5
 a5:=Tryz.isAgg5
 z5:=Tryz.sizeOf5
 v5:=Tryz.zeroValue5
 t9:=Tryz.underlying9
 a9:=Tryz.isAgg9
 z9:=Tryz.sizeOf9
 v9:=Tryz.zeroValue9
 t22:=Tryz.underlying46
 a22:=Tryz.isAgg46
 z22:=Tryz.sizeOf46
 v22:=Tryz.zeroValue46
 t23:=Tryz.underlying46
 a23:=Tryz.isAgg46
 z23:=Tryz.sizeOf46
 v23:=Tryz.zeroValue46
 t25:=Tryz.underlying3
 a25:=Tryz.isAgg3
 z25:=Tryz.sizeOf3
 v25:=Tryz.zeroValue3
 t32:=Tryz.underlying101
 a32:=Tryz.isAgg101
 z32:=Tryz.sizeOf101
 v32:=Tryz.zeroValue101
 t35:=Tryz.underlying239
 a35:=Tryz.isAgg239
 z35:=Tryz.sizeOf239
 v35:=Tryz.zeroValue239
 t36:=Tryz.underlying240
 a36:=Tryz.isAgg240
 z36:=Tryz.sizeOf240
 v36:=Tryz.zeroValue240
 t41:=Tryz.underlying39
 a41:=Tryz.isAgg39
 z41:=Tryz.sizeOf39
 v41:=Tryz.zeroValue39
 t44:=Tryz.underlying229
 a44:=Tryz.isAgg229
 z44:=Tryz.sizeOf229
 v44:=Tryz.zeroValue229
 t46:=Tryz.underlying228
 a46:=Tryz.isAgg228
 z46:=Tryz.sizeOf228
 v46:=Tryz.zeroValue228
 t53:=Tryz.underlying265
 a53:=Tryz.isAgg265
 z53:=Tryz.sizeOf265
 v53:=Tryz.zeroValue265
 t57:=Tryz.underlying269
 a57:=Tryz.isAgg269
 z57:=Tryz.sizeOf269
 v57:=Tryz.zeroValue269
 t63:=Tryz.underlying285
 a63:=Tryz.isAgg285
 z63:=Tryz.sizeOf285
 v63:=Tryz.zeroValue285
 t64:=Tryz.underlying286
 a64:=Tryz.isAgg286
 z64:=Tryz.sizeOf286
 v64:=Tryz.zeroValue286}
end Go.Proofs
end
