/-
  
  
  
  
  
  
  
  
  
-/
import Derived.Test.YtkpppjhbmnfmkaaGreatDoorJaa
import Derived.Maps.OwnSet
import Derived.Maps.OwnOps
import Derived.Maps.RangeWalk
import Derived.Maps.StringElems
import Derived.Test.YtkpppjhbmnfmkaaGreatDoorJad
import Derived.DeepKeys4
import Derived.Deep.RegionLaw
import Derived.Deep.DrawnRows
import Derived.ScopeJumps
import Derived.Test.YtkpppjhbmnfmkaaGreatDoorJag
import Derived.BigRegion
import Derived.Test.YtkpppjhbmnfmkaaGreatDoorProg
set_option linter.unusedSimpArgs false
set_option linter.unusedVariables false
section
namespace Go.Own.Im
open Go Go.RowKit Go.Own
def Rh (v:Value):Option (DataW Value×List MemPlace):=some (.held v,[])
def il (k:Int):Lit:=.int .i64 k
theorem keyLit (k:Int):WideAt.IsKeyLit (il k):=by simp[il,WideAt.IsKeyLit]
theorem il_ne {a b:Int} (h:a≠b):il a≠il b:=λe=>h (by injection e)
def HM (P:Program) (kt:TypeId) (w:World) (b n:Nat) (f:Int->Option Value):Prop:=
 ∃D,w.ownsMap P kt Rh b n D/\Maps.IsMap D/\∀k,Maps.has D (il k)=(f k).isSome/\∀z v,f k=some v->D.atKey (il k) z= .held v
section
variable {P:Program} {kt:TypeId} {w w':World} {b n:Nat} {f:Int->Option Value}
theorem HM.lt (h:HM P kt w b n f):b<w.heap.size:=by
 obtain⟨D,h1,_⟩:=h;exact h1.lt
theorem HM.kept {row:Option Nat} (h:HM P kt w b n f) (hg:w.grownBy w' row) (hne:some b≠row):HM P kt w' b n f:=by
 obtain⟨D,h1,h2⟩:=h;exact⟨D,h1.kept hg hne,h2⟩
theorem HM.alloc (h:HM P kt w b n f) (o:Obj):HM P kt (w.alloc o) b n f:=h.kept (World.grownBy_alloc w o none) (by simp)
theorem HM.same (h:HM P kt w b n f) {g:Int->Option Value} (hg:∀k,f k=g k):HM P kt w b n g:=by
 have:f=g:=funext hg;exact this▸h
theorem HM.made (P:Program) (kt:TypeId) (w:World):HM P kt (w.alloc (.map #[] 0)) w.heap.size 0 λ_=>none:=
 ⟨.map [],World.ownsMap_made w P kt Rh,Maps.isMap_empty,λ_=>⟨rfl,λ_ _ h=>by cases h⟩⟩
variable {t e:TypeId} (ht:P.underlying t=some (.map kt e)) (hk:P.underlying kt=some (.int .i64))
include ht hk
theorem HM.look (h:HM P kt w b n f) {z:Value} (hz:(zeroValue e).run P w= .ok z w) {k:Int} (hw:(Lit.int .i64 k).wf=true):
 (Instr.lookup t (.map (some b)) (.int .i64 k) false).run P w= .ok ((f k).getD z) w:=by
 obtain⟨D,h1,h2,h3⟩:=h;obtain⟨v,ps,h0,hv⟩:=h1.lookup (Maps.int_keyed hk) ht hz (zd:=.held z) (zp:=[]) rfl (Maps.keyOf_int_mk hk hw);rw[h0];cases hf:f k with
 |none=>
  have hn:=(h3 k).1;rw[hf]at hn;change Rh v=some (D.atKey (il k) _,ps)at hv;rw[Maps.atKey_of_not_has hn]at hv;simp only[Rh,Option.some.injEq,Prod.mk.injEq,DataW.held.injEq]at hv;rw[hv.1];rfl
 |some u=>
  change Rh v=some (D.atKey (il k) _,ps)at hv;rw[(h3 k).2 _ u hf]at hv;simp only[Rh,Option.some.injEq,Prod.mk.injEq,DataW.held.injEq]at hv;rw[hv.1];rfl
theorem HM.look_ok (h:HM P kt w b n f) {z:Value} (hz:(zeroValue e).run P w= .ok z w) {k:Int} (hw:(Lit.int .i64 k).wf=true):
 (Instr.lookup t (.map (some b)) (.int .i64 k) true).run P w= .ok (.tuple #[(f k).getD z,.bool (f k).isSome]) w:=by
 obtain⟨D,h1,h2,h3⟩:=h;obtain⟨v,ps,h0,hv⟩:=h1.look_ok (Maps.int_keyed hk) ht hz (zd:=.held z) (zp:=[]) rfl (Maps.keyOf_int_mk hk hw);rw[h0];change _=Result.ok (Value.tuple #[_,.bool (f k).isSome]) w;rw[<-(h3 k).1];refine congrArg (λx=>Result.ok (Value.tuple #[x,.bool (Maps.has D (il k))]) w) ?_;cases hf:f k with
 |none=>
  have hn:=(h3 k).1;rw[hf]at hn;change Rh v=some (D.atKey (il k) _,ps)at hv;rw[Maps.atKey_of_not_has hn]at hv;simp only[Rh,Option.some.injEq,Prod.mk.injEq,DataW.held.injEq]at hv;rw[hv.1];rfl
 |some u=>
  change Rh v=some (D.atKey (il k) _,ps)at hv;rw[(h3 k).2 _ u hf]at hv;simp only[Rh,Option.some.injEq,Prod.mk.injEq,DataW.held.injEq]at hv;rw[hv.1];rfl
theorem HM.put (h:HM P kt w b n f) (hn:n<maxLen) {k:Int} (hw:(Lit.int .i64 k).wf=true) (v:Value):
 ∃w',(Instr.mapUpdate t (.map (some b)) (.int .i64 k) v).run P w= .ok () w'/\HM P kt w' b (n+1) (λx=>if x=k then some v else f x)/\w.grownBy w' (some b):=by
 obtain⟨D,h1,h2,h3⟩:=h;obtain⟨w',h0,r1,r2⟩:=h1.update (Maps.int_keyed hk) ht hn (Maps.keyOf_int_mk hk hw) (val:=v) (d:=.held v) (ps:=[]) rfl;refine⟨w',h0,⟨_,r1,h2.put _ _,λx=>?_⟩,r2⟩;by_cases e:x=k
 · subst e
   simp only[if_pos];exact⟨Maps.has_put_same h2 (keyLit _) _,λz u hu=>by injection hu with hu;subst hu;exact Maps.atKey_put_same h2 (keyLit _) _ _⟩
 · simp only[if_neg e]
   refine⟨(Maps.has_put_other (il_ne e) _).trans (h3 x).1,λz u hu=>?_⟩;exact(Maps.atKey_put_other (il_ne e) _ _).trans ((h3 x).2 z u hu)
end
section
variable {P:Program} {ops:Array Oper} {rest:List Oper} {o:Oper} {a:Act} {Q:Exit->Act->World->Prop}
theorem wpList_put (w:World) (hg:o.guard=none) (m x v:Operand) (t:TypeId) (h0:o.op=Op.insert t m x v\/o.op=Op.mapUpdate t m x v) {kt e:TypeId} (ht:P.underlying t=some (.map kt e)) (hk:P.underlying kt=some (.int .i64))
 (b n:Nat) (f:Int->Option Value) (hm:a.eval m= .map (some b)) (h:HM P kt w b n f) (hn:n<maxLen) (k:Int) (hw:(Lit.int .i64 k).wf=true) (hx:a.eval x= .int .i64 k) (u:Value) (hv:a.eval v=u)
 (hK:∀w',HM P kt w' b (n+1) (λx=>if x=k then some u else f x)->w.grownBy w' (some b)->wpList P ops Q rest (a.put o.dst undef) w'):wpList P ops Q (o::rest) a w:=by
 refine wpList_plain hg λK' h2=>?_;obtain⟨w',h1,r1,r2⟩:=h.put ht hk hn hw u;unfold Oper.wp;rcases h0 with h0|h0<;>simp[execOp,h0,hm,hx,hv,h1,Result.andThen]<;>exact h2 _ _ (hK w' r1 r2)
end
end Go.Own.Im
end

section
namespace Go.Own.Hk
open Go.Own
def intMore:Nat->Nat->Nat->List UInt8->Option (Nat×List UInt8)
 |0,_,_,_=>none
 |_+1,_,_,[]=>none
 |k+1,sh,n,b::l=>
  if b.toNat<128 then(if n+b.toNat*2^sh<=2147483647 then some (n+b.toNat*2^sh,l)else none)
  else intMore k (sh+7) (n+(b.toNat-128)*2^sh) l
def intP (bits:Nat):List UInt8->Option (Nat×List UInt8)
 |[]=>none
 |b::l=>if b.toNat % 2^bits<2^bits-1 then some (b.toNat % 2^bits,l)else intMore 5 0 (b.toNat % 2^bits) l
def putMore:Nat->Nat->List UInt8
 |0,n=>[UInt8.ofNat n]
 |k+1,n=>if n<128 then[UInt8.ofNat n]else UInt8.ofNat (n % 128+128)::putMore k (n/128)
def putI (first bits n:Nat):List UInt8:=if n<2^bits-1 then[UInt8.ofNat (first+n)]else UInt8.ofNat (first+(2^bits-1))::putMore 4 (n-(2^bits-1))
theorem toNat_of (n:Nat) (h:n<256):(UInt8.ofNat n).toNat=n:=by
 rw[UInt8.toNat_ofNat'];exact Nat.mod_eq_of_lt h
theorem more_back:∀(k n sh acc:Nat) (r:List UInt8),n<128^(k+1)->acc+n*2^sh<=2147483647->intMore (k+1) sh acc (putMore k n++r)=some (acc+n*2^sh,r)
 |0,n,sh,acc,r,h,ha=>by
  have hn:n<128:=by simpa using h
  rw[putMore,List.cons_append,List.nil_append,intMore,toNat_of n (by omega),if_pos hn,if_pos ha]
 |k+1,n,sh,acc,r,h,ha=>by
  rw[putMore];by_cases hn:n<128
  · rw[if_pos hn,List.cons_append,List.nil_append,intMore,toNat_of n (by omega),if_pos hn,if_pos ha]
  · rw[if_neg hn,List.cons_append,intMore,toNat_of _ (by omega),if_neg (by omega)]
    have e:n=n % 128+128*(n/128):=by omega
    have e2:n*2^sh=(n % 128)*2^sh+(n/128)*2^(sh+7):=by
     rw[Nat.pow_add,<-Nat.mul_assoc,Nat.mul_right_comm,<-Nat.add_mul,show 2^7=128 from rfl,Nat.mul_comm (n/128) 128,<-e]
    rw[show n % 128+128-128=n % 128 by omega];rw[more_back k (n/128) (sh+7) (acc+n % 128*2^sh) r (by rw[Nat.div_lt_iff_lt_mul (by omega)];rw[Nat.pow_succ]at h;exact h) (by omega)];rw[e2,Nat.add_assoc]
theorem int_back (first bits n:Nat) (r:List UInt8) (hb:1<=bits) (h8:bits<=8) (hf:first % 2^bits=0) (hf2:first+2^bits<=256) (hn:n<=2147483647):intP bits (putI first bits n++r)=some (n,r):=by
 have hp:2<=2^bits:=by
  have:=Nat.pow_le_pow_right (n:=2) (by omega) hb
  simpa using this
 unfold putI;by_cases h:n<2^bits-1
 · rw[if_pos h,List.cons_append,List.nil_append,intP,toNat_of _ (by omega)]
   have e:(first+n) % 2^bits=n:=by
    rw[Nat.add_mod,hf,Nat.zero_add,Nat.mod_mod,Nat.mod_eq_of_lt (by omega)]
   rw[e,if_pos h]
 · rw[if_neg h,List.cons_append,intP,toNat_of _ (by omega)]
   have e:(first+(2^bits-1)) % 2^bits=2^bits-1:=by
    rw[Nat.add_mod,hf,Nat.zero_add,Nat.mod_mod,Nat.mod_eq_of_lt (by omega)]
   rw[e,if_neg (by omega),more_back 4 _ 0 _ r (by omega) (by omega)];simp;omega
theorem putI_pos (f b n:Nat):1<=(putI f b n).length:=by
 unfold putI
 split<;>simp
theorem putI_head (first bits n:Nat) (h8:bits<=8) (hf2:first+2^bits<=256):∃x l,putI first bits n=x::l/\first<=x.toNat/\x.toNat<first+2^bits:=by
 have hp:0<2^bits:=Nat.pow_pos (by omega);unfold putI
 split
 · exact⟨_,_,rfl,by rw[toNat_of _ (by omega)];omega,by rw[toNat_of _ (by omega)];omega⟩
 · exact⟨_,_,rfl,by rw[toNat_of _ (by omega)];omega,by rw[toNat_of _ (by omega)];omega⟩
def nats (l:List UInt8):List Nat:=l.map UInt8.toNat
def decH (l:List UInt8):Option (List UInt8):=(Hf.dec 0 0 (Hf.unpack l)).map λs=>s.map UInt8.ofNat
def bitsH (s:List UInt8):List Bool:=Hf.encB (nats s)
def encH (s:List UInt8):List UInt8:=Hf.pack (bitsH s).length (bitsH s)
def sizeH (s:List UInt8):Nat:=((bitsH s).length+7)/8
theorem nats_back (s:List UInt8):(nats s).map UInt8.ofNat=s:=by
 rw[nats,List.map_map]
 conv=>rhs;rw[<-List.map_id s]
 congr 1
 funext x
 simp
theorem huff_back (s:List UInt8):decH (encH s)=some s:=by
 obtain⟨p,hp,e⟩:=Hf.unpack_pack (bitsH s).length (bitsH s) (by omega);unfold decH encH;rw[e,bitsH,Hf.there_back _ _ (λx hx=>by
  obtain⟨b,_,rfl⟩:=List.mem_map.1 hx;exact b.toNat_lt) hp]
 simp[nats_back]
theorem pack_len:∀(k:Nat) (l:List Bool),l.length<=8*k->(Hf.pack k l).length=(l.length+7)/8
 |0,l,h=>by
  have:l=[]:=List.eq_nil_of_length_eq_zero (by omega);subst this
  rfl
 |k+1,[],h=>rfl
 |k+1,x::l,h=>by
  have hd:((x::l).drop 8).length=(x::l).length-8:=List.length_drop ..;rw[Hf.pack,List.length_cons,pack_len k _ (by rw[hd];omega),hd];have:1<=(x::l).length:=by simp
  omega
theorem encH_len (s:List UInt8):(encH s).length=sizeH s:=pack_len _ _ (by omega)
def textP (l:List UInt8):Option (List UInt8×List UInt8):=
 match intP 7 l with
 |none=>none
 |some (n,r)=>
  if n>16384 then none else
  if n>r.length then none else
  if(l.headD 0).toNat<128 then some (r.take n,r.drop n)else
  match decH (r.take n)with
  |none=>none
  |some s=>some (s,r.drop n)
def putT (s:List UInt8):List UInt8:=if sizeH s<s.length then putI 128 7 (sizeH s)++encH s else putI 0 7 s.length++s
theorem text_back (s r:List UInt8) (h:s.length<=16384):textP (putT s++r)=some (s,r):=by
 unfold putT;by_cases hs:sizeH s<s.length
 · rw[if_pos hs,List.append_assoc,textP,int_back 128 7 _ _ (by omega) (by omega) (by decide) (by decide) (by omega)]
   obtain⟨x,l,e,h1,h2⟩:=putI_head 128 7 (sizeH s) (by omega) (by decide);simp only;rw[if_neg (by omega),if_neg (by rw[List.length_append,encH_len];omega)];rw[e,List.cons_append,List.headD_cons,if_neg (by omega)];rw[List.take_append_of_le_length (by rw[encH_len];omega),<-encH_len,List.take_length,huff_back];simp
 · rw[if_neg hs,List.append_assoc,textP,int_back 0 7 _ _ (by omega) (by omega) (by decide) (by decide) (by omega)]
   obtain⟨x,l,e,h1,h2⟩:=putI_head 0 7 s.length (by omega) (by decide);simp only;rw[if_neg (by omega),if_neg (by rw[List.length_append];omega)];rw[e,List.cons_append,List.headD_cons,if_pos (by have:(2:Nat)^7=128:=rfl;omega)];simp
def statL:List (List UInt8×List UInt8):=[([58,97,117,116,104,111,114,105,116,121],[]),
 ([58,109,101,116,104,111,100],[71,69,84]),
 ([58,109,101,116,104,111,100],[80,79,83,84]),
 ([58,112,97,116,104],[47]),
 ([58,112,97,116,104],[47,105,110,100,101,120,46,104,116,109,108]),
 ([58,115,99,104,101,109,101],[104,116,116,112]),
 ([58,115,99,104,101,109,101],[104,116,116,112,115]),
 ([58,115,116,97,116,117,115],[50,48,48]),
 ([58,115,116,97,116,117,115],[50,48,52]),
 ([58,115,116,97,116,117,115],[50,48,54]),
 ([58,115,116,97,116,117,115],[51,48,52]),
 ([58,115,116,97,116,117,115],[52,48,48]),
 ([58,115,116,97,116,117,115],[52,48,52]),
 ([58,115,116,97,116,117,115],[53,48,48]),
 ([97,99,99,101,112,116,45,99,104,97,114,115,101,116],[]),
 ([97,99,99,101,112,116,45,101,110,99,111,100,105,110,103],[103,122,105,112,44,32,100,101,102,108,97,116,101]),
 ([97,99,99,101,112,116,45,108,97,110,103,117,97,103,101],[]),
 ([97,99,99,101,112,116,45,114,97,110,103,101,115],[]),
 ([97,99,99,101,112,116],[]),
 ([97,99,99,101,115,115,45,99,111,110,116,114,111,108,45,97,108,108,111,119,45,111,114,105,103,105,110],[]),
 ([97,103,101],[]),
 ([97,108,108,111,119],[]),
 ([97,117,116,104,111,114,105,122,97,116,105,111,110],[]),
 ([99,97,99,104,101,45,99,111,110,116,114,111,108],[]),
 ([99,111,110,116,101,110,116,45,100,105,115,112,111,115,105,116,105,111,110],[]),
 ([99,111,110,116,101,110,116,45,101,110,99,111,100,105,110,103],[]),
 ([99,111,110,116,101,110,116,45,108,97,110,103,117,97,103,101],[]),
 ([99,111,110,116,101,110,116,45,108,101,110,103,116,104],[]),
 ([99,111,110,116,101,110,116,45,108,111,99,97,116,105,111,110],[]),
 ([99,111,110,116,101,110,116,45,114,97,110,103,101],[]),
 ([99,111,110,116,101,110,116,45,116,121,112,101],[]),
 ([99,111,111,107,105,101],[]),
 ([100,97,116,101],[]),
 ([101,116,97,103],[]),
 ([101,120,112,101,99,116],[]),
 ([101,120,112,105,114,101,115],[]),
 ([102,114,111,109],[]),
 ([104,111,115,116],[]),
 ([105,102,45,109,97,116,99,104],[]),
 ([105,102,45,109,111,100,105,102,105,101,100,45,115,105,110,99,101],[]),
 ([105,102,45,110,111,110,101,45,109,97,116,99,104],[]),
 ([105,102,45,114,97,110,103,101],[]),
 ([105,102,45,117,110,109,111,100,105,102,105,101,100,45,115,105,110,99,101],[]),
 ([108,97,115,116,45,109,111,100,105,102,105,101,100],[]),
 ([108,105,110,107],[]),
 ([108,111,99,97,116,105,111,110],[]),
 ([109,97,120,45,102,111,114,119,97,114,100,115],[]),
 ([112,114,111,120,121,45,97,117,116,104,101,110,116,105,99,97,116,101],[]),
 ([112,114,111,120,121,45,97,117,116,104,111,114,105,122,97,116,105,111,110],[]),
 ([114,97,110,103,101],[]),
 ([114,101,102,101,114,101,114],[]),
 ([114,101,102,114,101,115,104],[]),
 ([114,101,116,114,121,45,97,102,116,101,114],[]),
 ([115,101,114,118,101,114],[]),
 ([115,101,116,45,99,111,111,107,105,101],[]),
 ([115,116,114,105,99,116,45,116,114,97,110,115,112,111,114,116,45,115,101,99,117,114,105,116,121],[]),
 ([116,114,97,110,115,102,101,114,45,101,110,99,111,100,105,110,103],[]),
 ([117,115,101,114,45,97,103,101,110,116],[]),
 ([118,97,114,121],[]),
 ([118,105,97],[]),
 ([119,119,119,45,97,117,116,104,101,110,116,105,99,97,116,101],[])]
def hv (n v:List UInt8):Hd.HdrV:=⟨⟨n.toArray⟩,⟨v.toArray⟩,false⟩
def statH:List Hd.HdrV:=statL.map λp=>hv p.1 p.2
def hz (h:Hd.HdrV):Nat:=h.name.size+h.value.size+32
def hzs (l:List Hd.HdrV):Nat:=(l.map hz).sum
structure TM where
 E:List Hd.HdrV:=[]
 most:Nat:=4096
def shrink (m:Nat):List Hd.HdrV->List Hd.HdrV
 |[]=>[]
 |h::E=>if m<hzs (h::E)then shrink m E else h::E
def off (h:Hd.HdrV):Hd.HdrV:={h with never:=false}
def TM.add (t:TM) (h:Hd.HdrV):TM:=if t.most<hz h then{t with E:=[]}else{t with E:=shrink (t.most-hz h) t.E++[off h]}
def TM.resize (t:TM) (n:Nat):TM:={E:=shrink n t.E,most:=n}
def TM.all (t:TM):List Hd.HdrV:=statH++t.E.reverse
def TM.get (t:TM) (i:Nat):Option Hd.HdrV:=if i=0 then none else t.all[i-1]?
structure TM.Ok (t:TM):Prop where
 plain:∀h∈t.E,h.never=false
 size:hzs t.E<=t.most
 most:t.most<=4096
theorem hzs_cons (h:Hd.HdrV) (E:List Hd.HdrV):hzs (h::E)=hz h+hzs E:=by simp[hzs]
theorem hzs_append (a b:List Hd.HdrV):hzs (a++b)=hzs a+hzs b:=by simp[hzs]
theorem shrink_le:∀(m:Nat) (E:List Hd.HdrV),hzs (shrink m E)<=m
 |m,[]=>by simp[shrink,hzs]
 |m,h::E=>by
  unfold shrink
  split
  · exact shrink_le m E
  · omega
theorem shrink_sub:∀(m:Nat) (E:List Hd.HdrV) (x:Hd.HdrV),x∈shrink m E->x∈E
 |m,[],x,h=>h
 |m,h::E,x,hx=>by
  unfold shrink at hx
  split at hx
  · exact List.mem_cons_of_mem _ (shrink_sub m E x hx)
  · exact hx
theorem hz_off (h:Hd.HdrV):hz (off h)=hz h:=rfl
theorem TM.Ok.add {t:TM} (h:t.Ok) (x:Hd.HdrV):(t.add x).Ok:=by
 unfold TM.add
 split
 · exact⟨λy hy=>(by cases hy),(by simp[hzs]),h.most⟩
 · refine⟨λy hy=>?_,?_,h.most⟩
   · rcases List.mem_append.1 hy with hy|hy
     · exact h.plain y (shrink_sub _ _ _ hy)
     · rw[List.mem_singleton.1 hy];rfl
   · have:=shrink_le (t.most-hz x) t.E
     show hzs (shrink _ _++[off x])<=t.most;rw[hzs_append,hzs_cons,hz_off];simp[hzs]at*
     omega
theorem statH_plain:∀h∈statH,h.never=false:=by
 intro h hh;obtain⟨p,_,rfl⟩:=List.mem_map.1 hh
 rfl
theorem TM.Ok.all {t:TM} (h:t.Ok):∀x∈t.all,x.never=false:=by
 intro x hx;rcases List.mem_append.1 hx with hx|hx
 · exact statH_plain x hx
 · exact h.plain x (List.mem_reverse.1 hx)
def namedP (bits:Nat) (t:TM) (l:List UInt8):Option (Hd.HdrV×List UInt8):=
 match intP bits l with
 |none=>none
 |some (i,r)=>
  if i=0 then
   match textP r with
   |none=>none
   |some (n,r1)=>
    match textP r1 with
    |none=>none
    |some (v,r2)=>some (hv n v,r2)
  else
   match t.get i with
   |none=>none
   |some h=>
    match textP r with
    |none=>none
    |some (v,r2)=>some ({hv [] v with name:=h.name},r2)
def stepP (t:TM) (out:Bool) (l:List UInt8):Option (Option Hd.HdrV×List UInt8×TM):=
 if 128<=(l.headD 0).toNat then
  match intP 7 l with
  |none=>none
  |some (i,r)=>
   match t.get i with
   |none=>none
   |some h=>some (some h,r,t)
 else if 64<=(l.headD 0).toNat then
  match namedP 6 t l with
  |none=>none
  |some (h,r)=>some (some h,r,t.add h)
 else if 32<=(l.headD 0).toNat then
  match intP 5 l with
  |none=>none
  |some (n,r)=>if out=true\/n>4096 then none else some (none,r,t.resize n)
 else
  match namedP 4 t l with
  |none=>none
  |some (h,r)=>some (some {h with never:=decide (16<=(l.headD 0).toNat)},r,t)
def blockP:Nat->TM->Nat->List Hd.HdrV->List UInt8->Option (List Hd.HdrV×TM)
 |_,t,_,out,[]=>some (out,t)
 |0,_,_,_,_::_=>none
 |k+1,t,sz,out,b::l=>
  match stepP t (!out.isEmpty) (b::l)with
  |none=>none
  |some (none,r,t')=>blockP k t' sz out r
  |some (some h,r,t')=>if sz+hz h>16384 then none else blockP k t' (sz+hz h) (out++[h]) r
def decP (t:TM) (l:List UInt8):Option (List Hd.HdrV×TM):=blockP l.length t 0 [] l
def findGo (n v:ByteArray):List Hd.HdrV->Nat->Nat->Nat×Bool
 |[],_,k=>(k,false)
 |h::l,i,k=>if h.name=n then(if h.value=v then(i,true)else findGo n v l (i+1) (if k=0 then i else k))else findGo n v l (i+1) k
def TM.find (t:TM) (n v:ByteArray):Nat×Bool:=findGo n v t.all 1 0
def litP (i:Nat) (h:Hd.HdrV):List UInt8:=(if i=0 then putT h.name.data.toList else[])++putT h.value.data.toList
def encOne (t:TM) (h:Hd.HdrV):List UInt8×TM:=
 let f:=t.find h.name h.value
 if f.2=true/\h.never=false then(putI 128 7 f.1,t)
 else if h.never=true then(putI 16 4 f.1++litP f.1 h,t)
 else if t.most<hz h then(putI 0 4 f.1++litP f.1 h,t)
 else(putI 64 6 f.1++litP f.1 h,t.add h)
def encP:TM->List Hd.HdrV->List UInt8×TM
 |t,[]=>([],t)
 |t,h::l=>((encOne t h).1++(encP (encOne t h).2 l).1,(encP (encOne t h).2 l).2)
theorem find_spec (n v:ByteArray):∀(l:List Hd.HdrV) (i k:Nat),1<=i->
 ∀r,findGo n v l i k=r->(r.2=true->∃h,l[r.1-i]?=some h/\i<=r.1/\h.name=n/\h.value=v)/\(r.2=false->r.1=k\/(k=0/\∃h,l[r.1-i]?=some h/\i<=r.1/\h.name=n))
 |[],i,k,hi,r,h=>by
  rw[findGo]at h;subst h;exact⟨λh=>(by cases h),λ_=>.inl rfl⟩
 |x::l,i,k,hi,r,h=>by
  rw[findGo]at h;have key:∀(j:Nat) (y:Hd.HdrV),l[j-(i+1)]?=some y->i+1<=j->(x::l)[j-i]?=some y:=λj y h1 h2=>by
   rw[show j-i=(j-(i+1))+1 by omega,List.getElem?_cons_succ];exact h1
  split at h
  · rename_i hn
    split at h
    · rename_i h3
      subst h;exact⟨λ_=>⟨x,by simp,Nat.le_refl _,hn,h3⟩,λh=>(by cases h)⟩
    · obtain⟨h1,h2⟩:=find_spec n v l (i+1) (if k=0 then i else k) (by omega) r h
      refine⟨λhr=>?_,λhr=>?_⟩
      · obtain⟨y,a,b,c⟩:=h1 hr
        exact⟨y,key _ _ a b,by omega,c⟩
      · rcases h2 hr with e|⟨e,_⟩
        · by_cases h0:k=0
          · rw[if_pos h0]at e
            exact .inr ⟨h0,x,by rw[e,Nat.sub_self];rfl,by omega,hn⟩
          · rw[if_neg h0]at e
            exact .inl e
        · split at e
          · omega
          · omega
  · obtain⟨h1,h2⟩:=find_spec n v l (i+1) k (by omega) r h
    refine⟨λhr=>?_,λhr=>?_⟩
    · obtain⟨y,a,b,c⟩:=h1 hr
      exact⟨y,key _ _ a b,by omega,c⟩
    · rcases h2 hr with e|⟨e,y,a,b,c⟩
      · exact .inl e
      · exact .inr ⟨e,y,key _ _ a b,by omega,c⟩
theorem find_whole {t:TM} {n v:ByteArray} (h:(t.find n v).2=true):∃x,t.get (t.find n v).1=some x/\x.name=n/\x.value=v/\1<=(t.find n v).1:=by
 obtain⟨x,h1,h2,h3,h4⟩:=(find_spec n v t.all 1 0 (by omega) _ rfl).1 h;exact⟨x,by rw[TM.get,if_neg (by show¬(findGo n v t.all 1 0).1=0;omega)];exact h1,h3,h4,h2⟩
theorem find_named {t:TM} {n v:ByteArray} (h0:(t.find n v).1≠0):∃x,t.get (t.find n v).1=some x/\x.name=n:=by
 cases hf:(t.find n v).2 with
 |true=>
  obtain⟨x,h1,h2,_⟩:=find_whole hf;exact⟨x,h1,h2⟩
 |false=>
  rcases(find_spec n v t.all 1 0 (by omega) _ rfl).2 hf with e|⟨_,x,h1,h2,h3⟩
  · exact absurd e h0
  · exact⟨x,by rw[TM.get,if_neg h0];exact h1,h3⟩
theorem get_lt {t:TM} {i:Nat} {x:Hd.HdrV} (h:t.get i=some x):i<=t.all.length:=by
 unfold TM.get at h
 split at h
 · cases h
 · have:=(List.getElem?_eq_some_iff.1 h).1
   omega
theorem find_lt (t:TM) (n v:ByteArray):(t.find n v).1<=t.all.length:=by
 by_cases h:(t.find n v).1=0
 · omega
 · obtain⟨x,h1,_⟩:=find_named h
   exact get_lt h1
theorem hz_ge (l:List Hd.HdrV):l.length*32<=hzs l:=by
 induction l with
 |nil=>simp[hzs]
 |cons h l ih=>rw[hzs_cons,List.length_cons];unfold hz;omega
theorem all_len {t:TM} (h:t.Ok):t.all.length<=189:=by
 have h1:=hz_ge t.E;have h2:=h.size;have h3:=h.most;have h4:statH.length=61:=by simp[statH,statL]
 rw[TM.all,List.length_append,List.length_reverse,h4];omega
theorem named_back {t:TM} (ht:t.Ok) (first bits:Nat) (h:Hd.HdrV) (r:List UInt8) (hb:1<=bits) (h8:bits<=8) (hf:first % 2^bits=0) (hf2:first+2^bits<=256) (h1:h.name.size<=16384) (h2:h.value.size<=16384):
 namedP bits t (putI first bits (t.find h.name h.value).1++litP (t.find h.name h.value).1 h++r)=some (off h,r):=by
 have hl:=Nat.le_trans (find_lt t h.name h.value) (all_len ht);unfold namedP;rw[List.append_assoc,int_back first bits _ _ hb h8 hf hf2 (by omega)];simp only;have e2:h.value.data.toList.length<=16384:=by simpa using h2
 by_cases h0:(t.find h.name h.value).1=0
 · rw[if_pos h0,litP,if_pos h0,List.append_assoc,text_back _ _ (by simpa using h1)]
   simp only;rw[text_back _ _ e2];simp[hv,off]
 · obtain⟨x,hx,hn⟩:=find_named h0
   rw[if_neg h0,hx,litP,if_neg h0,List.nil_append];simp only;rw[text_back _ _ e2];simp[hv,off,hn]
theorem head_litP {a:List UInt8} {x:UInt8} {l:List UInt8} (h:a=x::l) (r:List UInt8):(a++r).headD 0=x:=by rw[h];rfl
theorem step_back {t:TM} (ht:t.Ok) (h:Hd.HdrV) (out:Bool) (r:List UInt8) (h1:h.name.size<=16384) (h2:h.value.size<=16384):
 stepP t out ((encOne t h).1++r)=some (some h,r,(encOne t h).2)/\1<=(encOne t h).1.length/\(encOne t h).2.Ok:=by
 have hl:=Nat.le_trans (find_lt t h.name h.value) (all_len ht);unfold encOne;by_cases hw:(t.find h.name h.value).2=true/\h.never=false
 · simp only[hw,and_self,if_true]
   obtain⟨x,hx,hn,h5,_⟩:=find_whole hw.1;obtain⟨y,l,e,a1,a2⟩:=putI_head 128 7 (t.find h.name h.value).1 (by omega) (by decide);refine⟨?_,putI_pos _ _ _,ht⟩;unfold stepP;rw[head_litP e r,if_pos a1,int_back 128 7 _ _ (by omega) (by omega) (by decide) (by decide) (by omega)];simp only[hx];have hm:x∈t.all:=by
    unfold TM.get at hx
    split at hx
    · cases hx
    · exact List.mem_of_getElem? hx
   have:x=h:=by
    cases x;cases h;simp only at hn h5 hw;have hne:=ht.all _ hm;simp only at hne;simp[hn,h5,hw.2,hne]
   rw[this]
 · simp only[hw,if_false]
   by_cases h4:h.never=true
   · simp only[h4,if_true]
     obtain⟨y,l,e,a1,a2⟩:=putI_head 16 4 (t.find h.name h.value).1 (by omega) (by decide);have hh:=head_litP e (litP (t.find h.name h.value).1 h++r);rw[<-List.append_assoc]at hh;refine⟨?_,by rw[List.length_append];have:=putI_pos 16 4 (t.find h.name h.value).1;omega,ht⟩;have p4:(2:Nat)^4=16:=rfl;unfold stepP;rw[hh,if_neg (by omega),if_neg (by omega),if_neg (by omega),named_back ht 16 4 h r (by omega) (by omega) (by decide) (by decide) h1 h2];simp only[a1,decide_true];cases h;simp only at h4;simp[off,h4]
   · have h0:h.never=false:=by simpa using h4
     simp only[h0,Bool.false_eq_true,if_false];have h3:off h=h:=by cases h;simp only at h0;simp[off,h0]
     by_cases hm:t.most<hz h
     · simp only[hm,if_true]
       obtain⟨y,l,e,a1,a2⟩:=putI_head 0 4 (t.find h.name h.value).1 (by omega) (by decide);have hh:=head_litP e (litP (t.find h.name h.value).1 h++r);rw[<-List.append_assoc]at hh;refine⟨?_,by rw[List.length_append];have:=putI_pos 0 4 (t.find h.name h.value).1;omega,ht⟩;have p4:(2:Nat)^4=16:=rfl;unfold stepP;rw[hh,if_neg (by omega),if_neg (by omega),if_neg (by omega),named_back ht 0 4 h r (by omega) (by omega) (by decide) (by decide) h1 h2];have:¬16<=y.toNat:=by omega
       simp only[this,decide_false,h3];cases h;simp only at h0;simp[h0]
     · simp only[hm,if_false]
       obtain⟨y,l,e,a1,a2⟩:=putI_head 64 6 (t.find h.name h.value).1 (by omega) (by decide);have hh:=head_litP e (litP (t.find h.name h.value).1 h++r);rw[<-List.append_assoc]at hh;refine⟨?_,by rw[List.length_append];have:=putI_pos 64 6 (t.find h.name h.value).1;omega,ht.add h⟩;have p6:(2:Nat)^6=64:=rfl;unfold stepP;rw[hh,if_neg (by omega),if_pos a1,named_back ht 64 6 h r (by omega) (by omega) (by decide) (by decide) h1 h2];simp only[h3]
theorem block_back:∀(l:List Hd.HdrV) (k:Nat) (t:TM) (sz:Nat) (out:List Hd.HdrV),t.Ok->(encP t l).1.length<=k->(∀h∈l,h.name.size<=16384/\h.value.size<=16384)->sz+hzs l<=16384->
 blockP k t sz out (encP t l).1=some (out++l,(encP t l).2)
 |[],k,t,sz,out,_,_,_,_=>by
  rw[encP,List.append_nil];cases k<;>rfl
 |h::l,k,t,sz,out,ht,hk,hl,hs=>by
  obtain⟨h1,h2,h3⟩:=step_back ht h (!out.isEmpty) (encP (encOne t h).2 l).1 (hl h (by simp)).1 (hl h (by simp)).2;rw[encP]at hk ⊢;simp only[List.length_append]at hk;rw[hzs_cons]at hs;cases k with
  |zero=>omega
  |succ k=>
   have ih:=block_back l k (encOne t h).2 (sz+hz h) (out++[h]) h3 (by omega) (λx hx=>hl x (by simp[hx])) (by omega);cases hc:(encOne t h).1++(encP (encOne t h).2 l).1 with
   |nil=>
    have h5:=congrArg List.length hc;rw[List.length_append,List.length_nil]at h5;omega
   |cons b r=>
    rw[hc]at h1;rw[blockP,h1];simp only;rw[if_neg (by omega),ih,List.append_assoc]
    rfl
theorem there_back (t:TM) (l:List Hd.HdrV) (ht:t.Ok) (hl:hzs l<=16384):decP t (encP t l).1=some (l,(encP t l).2):=by
 have h:=block_back l (encP t l).1.length t 0 [] ht (Nat.le_refl _) (λh hh=>by
  have:hz h<=hzs l:=by
   clear hl ht
   induction l with
   |nil=>cases hh
   |cons x l ih=>
    rw[hzs_cons];rcases List.mem_cons.1 hh with rfl|hh
    · omega
    · have:=ih hh;omega
  unfold hz at this;omega) (by omega)
 rw[List.nil_append]at h;exact h
end Go.Own.Hk
end

section
namespace Go.Own.Im
open Go Go.RowKit Go.Own
def SM (P:Program) (kt:TypeId) (w:World) (b:Nat) (ks:List Nat) (f:Nat->Value):Prop:=
 ∃D,w.ownsMap P kt Rh b ks.length D/\Maps.Tidy D/\Maps.size D=ks.length/\(∀k:Int,Maps.has D (il k)=ks.any λi:Nat=>decide ((i:Int)=k))/\∀i∈ks,∀z,D.atKey (il (i:Int)) z= .held (f i)
section
variable {P:Program} {kt:TypeId} {w w':World} {b:Nat} {ks:List Nat} {f:Nat->Value}
theorem own_tight {R:Value->Option (DataW Value×List MemPlace)} {n:Nat} {D:DataW Value} (h:w.ownsMap P kt R b n D):w.ownsMap P kt R b (Maps.size D) D:=by
 obtain⟨es,clock,hb,F,hs,rfl⟩:=h;exact⟨es,clock,hb,F,by simp[Maps.size,length_sorted],rfl⟩
theorem SM.lt (h:SM P kt w b ks f):b<w.heap.size:=by
 obtain⟨D,h1,_⟩:=h;exact h1.lt
theorem SM.keep (h:SM P kt w b ks f) (hb:w'.heap[b]?=w.heap[b]?):SM P kt w' b ks f:=by
 obtain⟨D,⟨es,clock,he,h1⟩,h2⟩:=h;exact⟨D,⟨es,clock,hb.trans he,h1⟩,h2⟩
theorem SM.same (h:SM P kt w b ks f) {g:Nat->Value} (hg:∀i∈ks,f i=g i):SM P kt w b ks g:=by
 obtain⟨D,h1,h2,h3,h4,h5⟩:=h;exact⟨D,h1,h2,h3,h4,λi hi z=>by rw[h5 i hi z,hg i hi]⟩
theorem SM.made (P:Program) (kt:TypeId) (w:World) (f:Nat->Value):SM P kt (w.alloc (.map #[] 0)) w.heap.size [] f:=
 ⟨.map [],World.ownsMap_made w P kt Rh,⟨[],rfl,List.Pairwise.nil⟩,rfl,λ_=>rfl,λ_ h=>by cases h⟩
def atI (ks:List Nat) (f:Nat->Value) (z:Value) (k:Int):Value:=match ks.find? (λi:Nat=>decide ((i:Int)=k))with|some i=>f i|none=>z
variable {t e:TypeId} (ht:P.underlying t=some (.map kt e)) (hk:P.underlying kt=some (.int .i64))
include ht hk
theorem SM.look (h:SM P kt w b ks f) {z:Value} (hz:(zeroValue e).run P w= .ok z w) {k:Int} (hw:(Lit.int .i64 k).wf=true):
 (Instr.lookup t (.map (some b)) (.int .i64 k) false).run P w= .ok (atI ks f z k) w:=by
 obtain⟨D,h1,h2,h3,h4,h5⟩:=h;obtain⟨v,ps,h0,hv⟩:=h1.lookup (Maps.int_keyed hk) ht hz (zd:=.held z) (zp:=[]) rfl (Maps.keyOf_int_mk hk hw);rw[h0];unfold atI;change Rh v=some (D.atKey (il k) _,ps)at hv;cases hf:ks.find? (λi:Nat=>decide ((i:Int)=k))with
 |none=>
  have hn:Maps.has D (il k)=false:=by
   rw[h4 k,List.any_eq_false];intro i hi;have:=List.find?_eq_none.1 hf i hi
   simpa using this
  rw[Maps.atKey_of_not_has hn]at hv;simp only[Rh,Option.some.injEq,Prod.mk.injEq,DataW.held.injEq]at hv;rw[hv.1]
 |some i=>
  have hi:=List.mem_of_find?_eq_some hf;have h6:(i:Int)=k:=by simpa using List.find?_some hf
  subst h6;rw[h5 i hi]at hv;simp only[Rh,Option.some.injEq,Prod.mk.injEq,DataW.held.injEq]at hv;rw[hv.1]
omit hk in
theorem SM.len (h:SM P kt w b ks f) (ty:TypeId):(Builtin.len_ #[t] ty #[.map (some b)]).run P w= .ok (.int .i64 (ks.length:Nat)) w:=by
 obtain⟨D,h1,h2,h3,_⟩:=h;rw[h1.len ht ty,h3]
theorem SM.put (h:SM P kt w b ks f) (hn:ks.length<maxLen) {k:Nat} (hw:(Lit.int .i64 (k:Int)).wf=true) (h0:k∉ks) (v:Value):
 ∃w',(Instr.mapUpdate t (.map (some b)) (.int .i64 (k:Int)) v).run P w= .ok () w'/\SM P kt w' b (ks++[k]) (λi=>if i=k then v else f i)/\w.grownBy w' (some b)/\w'.heap.size=w.heap.size:=by
 obtain⟨D,h1,h2,h3,h4,h5⟩:=h;have K:=Maps.int_keyed hk;obtain⟨w',h6,r1,r2⟩:=h1.store K ht hn (Maps.keyOf_int_mk hk hw) (val:=v) (d:=.held v) (ps:=[]) rfl;have h7:Maps.has D (il (k:Int))=false:=by
  rw[h4,List.any_eq_false];intro i hi;have:i≠k:=λe=>h0 (e▸hi);simp;omega
 have hsz:Maps.size (D.put (il (k:Int)) (.held v))=ks.length+1:=by
  rw[Maps.size_put h2,h7];simp[h3]
 refine⟨w',h6,⟨D.put (il (k:Int)) (.held v),?_,r1.tidy K,by rw[hsz];simp,λx=>?_,λi hi z=>?_⟩,?_,?_⟩
 · have:=own_tight r1
   rw[show(Maps.size (D.put (.int .i64 (k:Int)) (.held v)))=(ks++[k]).length by rw[show(Lit.int .i64 (k:Int))=il k from rfl,hsz];simp]at this;exact this
 · by_cases e:x=(k:Int)
   · subst e
     rw[Maps.has_put_same h2.isMap (keyLit _)];simp
   · rw[Maps.has_put_other (il_ne e),h4 x,List.any_append]
     have:¬(k:Int)=x:=λh=>e h.symm;simp[this]
 · by_cases e:i=k
   · subst e
     rw[Maps.atKey_put_same h2.isMap (keyLit _)];simp
   · rw[Maps.atKey_put_other (il_ne (by omega))]
     show _=DataW.held (if i=k then v else f i);rw[if_neg e];rcases List.mem_append.1 hi with hi|hi
     · exact h5 i hi z
     · exact absurd (by simpa using hi) e
 · obtain⟨es,clock,es',clock',hb,rfl⟩:=r2
   exact⟨rfl,rfl,rfl,by simp[ChangeMaps.setBlock],λi hi hne=>ChangeMaps.heap_setBlock_other hb _ (λe=>hne (by rw[e]))⟩
 · obtain⟨es,clock,es',clock',hb,rfl⟩:=r2
   simp[ChangeMaps.setBlock]
theorem SM.drop (h:SM P kt w b ks f) {k:Nat} (hw:(Lit.int .i64 (k:Int)).wf=true) (h9:k∈ks) (hd:ks.Nodup) (ty:TypeId):
 ∃w',(Builtin.delete_ #[t,kt] ty #[.map (some b),.int .i64 (k:Int)]).run P w= .ok (.tuple #[]) w'/\SM P kt w' b (ks.filter λi=>i != k) f/\w.grownBy w' (some b)/\w'.heap.size=w.heap.size:=by
 obtain⟨D,h1,h2,h3,h4,h5⟩:=h;have K:=Maps.int_keyed hk;obtain⟨w',h0,r1,r2⟩:=h1.drop K ht (Maps.keyOf_int_mk hk hw) ty;have h7:Maps.has D (il (k:Int))=true:=by
  rw[h4,List.any_eq_true];exact⟨k,h9,by simp⟩
 have h8:∀l:List Nat,k∈l->l.Nodup->(l.filter λi=>i != k).length+1=l.length:=by
  intro l
  induction l with
  |nil=>intro h;cases h
  |cons x l ih=>
   intro hm hn;rw[List.nodup_cons]at hn;by_cases e:x=k
   · subst e
     have:l.filter (λi=>i != x)=l:=List.filter_eq_self.2 λa ha=>by
      have:a≠x:=λe=>hn.1 (e▸ha)
      simpa using this
     simp[this]
   · have he:k∈l:=by
      rcases List.mem_cons.1 hm with h|h
      · exact absurd h.symm e
      · exact h
     have:=ih he hn.2;simp[e];omega
 have hsz:Maps.size (D.del (il (k:Int)))=(ks.filter λi=>i != k).length:=by
  have:=Maps.size_del (k:=il (k:Int)) h2;rw[h7]at this;have h6:=h8 ks h9 hd;simp at this;omega
 refine⟨w',h0,⟨D.del (il (k:Int)),?_,r1.tidy K,hsz,λx=>?_,λi hi z=>?_⟩,?_,?_⟩
 · have:=own_tight r1
   rw[show Maps.size (D.del (.int .i64 (k:Int)))=(ks.filter λi=>i != k).length from hsz]at this;exact this
 · by_cases e:x=(k:Int)
   · subst e
     rw[Maps.has_del_same]
     symm
     rw[List.any_eq_false];intro i hi;have:=(List.mem_filter.1 hi).2;simp at this ⊢;omega
   · rw[Maps.has_del_other (il_ne e),h4 x,List.any_filter]
     congr 1
     funext i
     by_cases e2:i=k
     · have:¬(k:Int)=x:=λh=>e h.symm
       subst e2;simp[this]
     · simp[e2]
 · have hc:=List.mem_filter.1 hi
   have e:i≠k:=by simpa using hc.2
   rw[Maps.atKey_del_other (il_ne (by omega))];exact h5 i hc.1 z
 · obtain⟨es,clock,es',clock',hb,rfl⟩:=r2
   exact⟨rfl,rfl,rfl,by simp[ChangeMaps.setBlock],λi hi hne=>ChangeMaps.heap_setBlock_other hb _ (λe=>hne (by rw[e]))⟩
 · obtain⟨es,clock,es',clock',hb,rfl⟩:=r2
   simp[ChangeMaps.setBlock]
omit hk in
theorem SM.clear (h:SM P kt w b ks f) (ty:TypeId):
 ∃w',(Builtin.clear_ #[t] ty #[.map (some b)]).run P w= .ok (.tuple #[]) w'/\SM P kt w' b [] f/\w.grownBy w' (some b)/\w'.heap.size=w.heap.size:=by
 obtain⟨D,⟨es,clock,hb,F,hs,hD⟩,h2,h3,h4,h5⟩:=h;refine⟨ChangeMaps.setBlock w b (.map #[] clock),?_,⟨.map [],⟨#[],clock,ChangeMaps.heap_setBlock_same hb _,⟨by simp,MapKept.stamped_empty clock,by simp⟩,Nat.le_refl _,rfl⟩,⟨[],rfl,List.Pairwise.nil⟩,rfl,λ_=>rfl,λ_ h=>by cases h⟩,?_,by simp[ChangeMaps.setBlock]⟩
 · simp[Builtin.clear_,run_underlying ht,MapKept.run_getObj_map hb,MapKept.run_setObj_map _ hb,Result.andThen,ChangeMaps.setBlock]
 · exact⟨rfl,rfl,rfl,by simp[ChangeMaps.setBlock],λi hi hne=>ChangeMaps.heap_setBlock_other hb _ (λe=>hne (by rw[e]))⟩
end
end Go.Own.Im
end

section
namespace Go.Own.Im
open Go Go.RowKit Go.Own
def KM (P:Program) (kt:TypeId) (w:World) (b n:Nat) (f:Value->Option Value):Prop:=
 ∃D,w.ownsMap P kt Rh b n D/\Maps.IsMap D/\∀key kl,keyOf P kt key=some kl->Maps.has D kl=(f key).isSome/\∀z v,f key=some v->D.atKey kl z= .held v
section
variable {P:Program} {kt:TypeId} {w w':World} {b n:Nat} {f:Value->Option Value}
theorem KM.lt (h:KM P kt w b n f):b<w.heap.size:=by
 obtain⟨D,h1,_⟩:=h;exact h1.lt
theorem KM.kept {row:Option Nat} (h:KM P kt w b n f) (hg:w.grownBy w' row) (hne:some b≠row):KM P kt w' b n f:=by
 obtain⟨D,h1,h2⟩:=h;exact⟨D,h1.kept hg hne,h2⟩
theorem KM.alloc (h:KM P kt w b n f) (o:Obj):KM P kt (w.alloc o) b n f:=h.kept (World.grownBy_alloc w o none) (by simp)
theorem KM.below {B:Nat} (h:KM P kt w b n f) (hb:Below B w w') (hB:b<B):KM P kt w' b n f:=by
 obtain⟨D,⟨es,clock,he,h1⟩,h2⟩:=h;exact⟨D,⟨es,clock,(hb.block b hB).trans he,h1⟩,h2⟩
theorem KM.same (h:KM P kt w b n f) {g:Value->Option Value} (hg:∀k,f k=g k):KM P kt w b n g:=by
 have:f=g:=funext hg;exact this▸h
theorem KM.made (P:Program) (kt:TypeId) (w:World):KM P kt (w.alloc (.map #[] 0)) w.heap.size 0 λ_=>none:=
 ⟨.map [],World.ownsMap_made w P kt Rh,Maps.isMap_empty,λ_ _ _=>⟨rfl,λ_ _ h=>by cases h⟩⟩
variable {t e:TypeId} (ht:P.underlying t=some (.map kt e)) (K:Maps.Keyed P kt)
include ht K
theorem KM.look_ok (h:KM P kt w b n f) {z:Value} (hz:(zeroValue e).run P w= .ok z w) {key:Value} {kl:Lit} (hk:keyOf P kt key=some kl):
 (Instr.lookup t (.map (some b)) key true).run P w= .ok (.tuple #[(f key).getD z,.bool (f key).isSome]) w:=by
 obtain⟨D,h1,h2,h3⟩:=h;obtain⟨v,ps,h0,hv⟩:=h1.look_ok K ht hz (zd:=.held z) (zp:=[]) rfl hk;rw[h0,(h3 key kl hk).1];refine congrArg (λx=>Result.ok (Value.tuple #[x,.bool (f key).isSome]) w) ?_;cases hf:f key with
 |none=>
  have hn:=(h3 key kl hk).1;rw[hf]at hn;change Rh v=some (D.atKey kl _,ps)at hv;rw[Maps.atKey_of_not_has hn]at hv;simp only[Rh,Option.some.injEq,Prod.mk.injEq,DataW.held.injEq]at hv;rw[hv.1];rfl
 |some u=>
  change Rh v=some (D.atKey kl _,ps)at hv;rw[(h3 key kl hk).2 _ u hf]at hv;simp only[Rh,Option.some.injEq,Prod.mk.injEq,DataW.held.injEq]at hv;rw[hv.1];rfl
theorem KM.put (h:KM P kt w b n f) (hn:n<maxLen) {key:Value} {kl:Lit} (hk:keyOf P kt key=some kl) (v:Value) (g:Value->Option Value) (hg1:g key=some v) (hg2:∀x,x≠key->g x=f x):
 ∃w',(Instr.mapUpdate t (.map (some b)) key v).run P w= .ok () w'/\KM P kt w' b (n+1) g/\w.grownBy w' (some b):=by
 obtain⟨D,h1,h2,h3⟩:=h;obtain⟨w',h0,r1,r2⟩:=h1.update K ht hn hk (val:=v) (d:=.held v) (ps:=[]) rfl;refine⟨w',h0,⟨_,r1,h2.put _ _,λx lx hx=>?_⟩,r2⟩;by_cases ex:lx=kl
 · subst ex
   have:=K.inj hx hk;subst this;rw[hg1];exact⟨Maps.has_put_same h2 (K.key hk) _,λz u hu=>by injection hu with hu;subst hu;exact Maps.atKey_put_same h2 (K.key hk) _ _⟩
 · have hne:x≠key:=λe2=>by
    subst e2;rw[hk]at hx;injection hx with hx
    exact ex hx.symm
   rw[hg2 x hne];refine⟨(Maps.has_put_other ex _).trans (h3 x lx hx).1,λz u hu=>?_⟩;exact(Maps.atKey_put_other ex _ _).trans ((h3 x lx hx).2 z u hu)
end
section
variable {P:Program} {ops:Array Oper} {rest:List Oper} {o:Oper} {a:Act} {Q:Exit->Act->World->Prop}
theorem wpList_kput (w:World) (hg:o.guard=none) (m x v:Operand) (t:TypeId) (h0:o.op=Op.insert t m x v\/o.op=Op.mapUpdate t m x v) {kt e:TypeId} (ht:P.underlying t=some (.map kt e)) (K:Maps.Keyed P kt)
 (b n:Nat) (f:Value->Option Value) (hm:a.eval m= .map (some b)) (h:KM P kt w b n f) (hn:n<maxLen) (key:Value) (kl:Lit) (hk:keyOf P kt key=some kl) (hx:a.eval x=key) (u:Value) (hv:a.eval v=u) (g:Value->Option Value) (h2:g key=some u) (h3:∀y,y≠key->g y=f y)
 (hK:∀w',KM P kt w' b (n+1) g->w.grownBy w' (some b)->wpList P ops Q rest (a.put o.dst undef) w'):wpList P ops Q (o::rest) a w:=by
 refine wpList_plain hg λK' h4=>?_;obtain⟨w',h1,r1,r2⟩:=h.put ht K hn hk u g h2 h3;unfold Oper.wp;rcases h0 with h0|h0<;>simp[execOp,h0,hm,hx,hv,h1,Result.andThen]<;>exact h4 _ _ (hK w' r1 r2)
end
end Go.Own.Im
end

section
namespace Go.Proofs.YtkpppjhbmnfmkaaGreatDoor
open Go.RowKit Go.Own Go.Own.Hf Go.Own.Im
attribute [local go_sem] Oper.semAt_some
theorem word_keyed:Maps.Keyed Tryz.prog 324:=Maps.Keyed.of_law (deep_law_laid (by kernel_rfl) (m:=2) (by omega) (of_decide_eq_true (by kernel_rfl)) (by kernel_rfl) (by rw[Tryz.underlying324]))
def wd (c n:Nat):Value:=.agg #[.int .u32 (c:Nat),.int .i64 (n:Nat)]
theorem word_key (c n:Nat) (hc:c<4294967296) (hn:n<=1000):∃kl,keyOf Tryz.prog 324 (wd c n)=some kl:=by
 have h1:(Lit.int .u32 (c:Int)).wf=true:=by simp[Lit.wf,IntKind.min,IntKind.max,IntKind.bits,IntKind.signed];omega
 have h2:(Lit.int .i64 (n:Int)).wf=true:=by simp[Lit.wf,IntKind.min,IntKind.max,IntKind.bits,IntKind.signed];omega
 have k1:Tryz.prog.keyType 324=true:=by kernel_rfl
 have k2:(wd c n).formed Tryz.prog 324=true:=by
  have c2:Tryz.prog.cellsOf 324=2:=by kernel_rfl
  simp[wd,Value.formed,Tryz.underlying324,c2]
 have k3:Tryz.prog.keyLits (Tryz.prog.types.size+1) 324 [.int .u32 (c:Int),.int .i64 (n:Int)]=some [.int .u32 (c:Int),.int .i64 (n:Int)]:=by
  obtain⟨d,hd⟩:∃d,Tryz.prog.types.size=d+1:=⟨Tryz.prog.types.size-1,by have:0<Tryz.prog.types.size:=of_decide_eq_true (by kernel_rfl);omega⟩;have c2:Tryz.prog.cellsOf 324=2:=by kernel_rfl
  have c3:Tryz.prog.cellsOf 229=1:=by kernel_rfl
  have c4:Tryz.prog.cellsOf 3=1:=by kernel_rfl
  have i1:∀v:Int,(Lit.int .u32 v).wf=true->Tryz.prog.keyLits (d+1) 229 [.int .u32 v]=some [.int .u32 v]:=λv hv=>by
   simp[Program.keyLits,Tryz.underlying229,hv]
  have i2:∀v:Int,(Lit.int .i64 v).wf=true->Tryz.prog.keyLits (d+1) 3 [.int .i64 v]=some [.int .i64 v]:=λv hv=>by
   simp[Program.keyLits,Tryz.underlying3,hv]
  rw[hd];generalize hq:d+1=q at*
  unfold Program.keyLits;rw[Tryz.underlying324];simp[c2,c3,c4,i1 _ h1,i2 _ h2]
 unfold keyOf;rw[Tryz.underlying324,k1,k2];refine⟨.string (keyBytes [.int .u32 (c:Int),.int .i64 (n:Int)]),?_⟩;simp only[Bool.and_self,if_true];exact congrArg (Option.map λls=>Lit.string (keyBytes ls)) k3
end Go.Proofs.YtkpppjhbmnfmkaaGreatDoor
end

section
set_option maxHeartbeats 4000000
set_option maxRecDepth 100000
namespace Go.Proofs.YtkpppjhbmnfmkaaGreatDoor
open Lib (hid)
open Go.RowKit Go.Own Go.Own.Hf Go.Own.Im
attribute [local go_sem] Oper.semAt_some
open Classical in
noncomputable def kf (k:Nat) (v:Value):Option Value:=if h:∃s,s<k/\v=wd (cd s) (sz s)then some (.int .i64 (Classical.choose h:Nat))else none
theorem wd_inj {a b c d:Nat} (h:wd a b=wd c d):a=c/\b=d:=by
 injection h with h
 injection h with h
 injection h with h1 h2
 injection h1 with _ h1
 injection h2 with h2 _
 injection h2 with _ h2
 omega
theorem cd_inj {s t:Nat} (hs:s<257) (ht:t<257) (h:wd (cd s) (sz s)=wd (cd t) (sz t)):s=t:=by
 obtain⟨h1,h2⟩:=wd_inj h;have:=look_of hs;rw[h1,h2,look_of ht]at this;injection this with this
 exact this.symm
theorem kf_at {k s:Nat} (hk:k<=257) (hs:s<k):kf k (wd (cd s) (sz s))=some (.int .i64 (s:Nat)):=by
 have h:∃t,t<k/\wd (cd s) (sz s)=wd (cd t) (sz t):=⟨s,hs,rfl⟩;rw[kf,dif_pos h];have h2:=Classical.choose_spec h;rw[<-cd_inj (by omega) (by omega) h2.2]
theorem kf_other {k:Nat} (v:Value) (hk:k<257) (hv:v≠wd (cd k) (sz k)):kf (k+1) v=kf k v:=by
 by_cases h:∃s,s<k/\v=wd (cd s) (sz s)
 · obtain⟨s,hs,rfl⟩:=h
   rw[kf_at (by omega) hs,kf_at (by omega) (by omega)]
 · have h2:¬∃s,s<k+1/\v=wd (cd s) (sz s):=by
    rintro⟨s,hs,e⟩;rcases Nat.lt_or_ge s k with h3|h3
    · exact h ⟨s,h3,e⟩
    · have:s=k:=by omega
      subst this;exact hv e
   rw[kf,kf,dif_neg h,dif_neg h2]
theorem kf_look (c n:Nat):kf 257 (wd c n)=(Hf.look c n).map λs:Nat=>Value.int .i64 (s:Int):=by
 cases h:Hf.look c n with
 |some s=>
  obtain⟨h1,h2,h3⟩:=look_is h;rw[<-h2,<-h3,kf_at (Nat.le_refl _) h1]
  rfl
 |none=>
  rw[kf,dif_neg]
  · rfl
  · rintro⟨s,hs,e⟩
    obtain⟨h1,h2⟩:=wd_inj e;have:=look_of hs;rw[<-h1,<-h2,h]at this;cases this
theorem idx_cod {v:Value} (hv:CodV v) {s:Nat} (hs:s<257) (W:World):(Instr.index 250 v (.int .i64 (s:Int))).run Tryz.prog W= .ok (.int .u32 (cd s:Nat)) W:=by
 obtain⟨cs,rfl,hz,hc⟩:=hv;have h1:=hc s hs;obtain⟨i,hi,h0⟩:=Option.map_eq_some_iff.1 (show(Tryz.prog.info? 229).map (·.size)=some 1 by kernel_rfl);have h4:(s:Int)<257:=by omega
 have h2:s<cs.size:=by omega
 rw[Array.getElem?_eq_getElem h2]at h1;injection h1 with h1
 have ha:∀W,(isAgg 229).run Tryz.prog W= .ok false W:=λW=>by simp[isAgg,run_underlying Tryz.underlying229]
 have h3:∀W,(sizeOf 229).run Tryz.prog W= .ok 1 W:=λW=>by simp[sizeOf,typeInfo,hi,h0]
 simp[Instr.index,run_underlying Tryz.underlying250,asIntOf,hs,h3,part,ha,Array.getElem?_eq_getElem h2,h1]
theorem arr_gen (t:Array Value) (n:Nat) (h:t.size=n):t=((List.range n).map (λk=>t.getD k undef)).toArray:=by
 apply Array.ext
 · simp[h]
 · intro i h1 h2
   simp[Array.getD,h1]
theorem arr90 (t:Array Value) (h:t.size=90):t=(t.getD 0 undef::t.getD 1 undef::t.getD 2 undef::t.getD 3 undef::t.getD 4 undef::t.getD 5 undef::t.getD 6 undef::t.getD 7 undef::t.getD 8 undef::t.getD 9 undef::t.getD 10 undef::t.getD 11 undef::t.getD 12 undef::t.getD 13 undef::t.getD 14 undef::t.getD 15 undef::t.getD 16 undef::t.getD 17 undef::t.getD 18 undef::t.getD 19 undef::t.getD 20 undef::t.getD 21 undef::t.getD 22 undef::t.getD 23 undef::t.getD 24 undef::t.getD 25 undef::t.getD 26 undef::t.getD 27 undef::t.getD 28 undef::t.getD 29 undef::t.getD 30 undef::t.getD 31 undef::t.getD 32 undef::t.getD 33 undef::t.getD 34 undef::t.getD 35 undef::t.getD 36 undef::t.getD 37 undef::t.getD 38 undef::t.getD 39 undef::t.getD 40 undef::t.getD 41 undef::t.getD 42 undef::t.getD 43 undef::t.getD 44 undef::t.getD 45 undef::t.getD 46 undef::t.getD 47 undef::t.getD 48 undef::t.getD 49 undef::t.getD 50 undef::t.getD 51 undef::t.getD 52 undef::t.getD 53 undef::t.getD 54 undef::t.getD 55 undef::t.getD 56 undef::t.getD 57 undef::t.getD 58 undef::t.getD 59 undef::t.getD 60 undef::t.getD 61 undef::t.getD 62 undef::t.getD 63 undef::t.getD 64 undef::t.getD 65 undef::t.getD 66 undef::t.getD 67 undef::t.getD 68 undef::t.getD 69 undef::t.getD 70 undef::t.getD 71 undef::t.getD 72 undef::t.getD 73 undef::t.getD 74 undef::t.getD 75 undef::t.getD 76 undef::t.getD 77 undef::t.getD 78 undef::t.getD 79 undef::t.getD 80 undef::t.getD 81 undef::t.getD 82 undef::t.getD 83 undef::t.getD 84 undef::t.getD 85 undef::t.getD 86 undef::t.getD 87 undef::t.getD 88 undef::t.getD 89 undef::[]).toArray:=by
 exact arr_gen t 90 h
structure HA (a:Act) (v0 v4 v9 v10 v11:Value):Prop where
 dfr:a.defers=[]
 size:a.tmps.size=90
 s0:a.tmps.getD 0 undef=v0
 s4:a.tmps.getD 4 undef=v4
 s9:a.tmps.getD 9 undef=v9
 s10:a.tmps.getD 10 undef=v10
 s11:a.tmps.getD 11 undef=v11
theorem HA.lit {a:Act} {v0 v4 v9 v10 v11:Value} (h:HA a v0 v4 v9 v10 v11):∃u:Nat->Value,a={tmps:=(v0::u 1::u 2::u 3::v4::u 5::u 6::u 7::u 8::v9::v10::v11::u 12::u 13::u 14::u 15::u 16::u 17::u 18::u 19::u 20::u 21::u 22::u 23::u 24::u 25::u 26::u 27::u 28::u 29::u 30::u 31::u 32::u 33::u 34::u 35::u 36::u 37::u 38::u 39::u 40::u 41::u 42::u 43::u 44::u 45::u 46::u 47::u 48::u 49::u 50::u 51::u 52::u 53::u 54::u 55::u 56::u 57::u 58::u 59::u 60::u 61::u 62::u 63::u 64::u 65::u 66::u 67::u 68::u 69::u 70::u 71::u 72::u 73::u 74::u 75::u 76::u 77::u 78::u 79::u 80::u 81::u 82::u 83::u 84::u 85::u 86::u 87::u 88::u 89::[]).toArray,defers:=[]}:=by
 refine⟨λk=>a.tmps.getD k undef,?_⟩;obtain⟨t,df⟩:=a;obtain⟨h1,hz,e0,e4,e9,e10,e11⟩:=h;have h2:=arr90 t hz;simp only at h1 e0 e4 e9 e10 e11;rw[h1]
 congr 1
 rw[e0,e4,e9,e10,e11]at h2;exact h2
theorem lit0 {a:Act} (h1:a.defers=[]) (hz:a.tmps.size=90):∃u:Nat->Value,a={tmps:=(u 0::u 1::u 2::u 3::u 4::u 5::u 6::u 7::u 8::u 9::u 10::u 11::u 12::u 13::u 14::u 15::u 16::u 17::u 18::u 19::u 20::u 21::u 22::u 23::u 24::u 25::u 26::u 27::u 28::u 29::u 30::u 31::u 32::u 33::u 34::u 35::u 36::u 37::u 38::u 39::u 40::u 41::u 42::u 43::u 44::u 45::u 46::u 47::u 48::u 49::u 50::u 51::u 52::u 53::u 54::u 55::u 56::u 57::u 58::u 59::u 60::u 61::u 62::u 63::u 64::u 65::u 66::u 67::u 68::u 69::u 70::u 71::u 72::u 73::u 74::u 75::u 76::u 77::u 78::u 79::u 80::u 81::u 82::u 83::u 84::u 85::u 86::u 87::u 88::u 89::[]).toArray,defers:=[]}:=by
 refine⟨λk=>a.tmps.getD k undef,?_⟩;obtain⟨t,df⟩:=a;have h2:=arr90 t hz;simp only at h1;rw[h1]
 congr 1
theorem w64_succ (i:Nat) (h:i<1000000000000):wrap64 ((i:Int)+1)=((i+1:Nat):Int):=by unfold wrap64;omega
theorem i64_succ (i:Nat) (h:i<1000000000000):IntKind.i64.wrap ((i:Int)+1)=((i+1:Nat):Int):=by rw[IntKind.wrap_i64];omega
theorem ib_of {i n r:Nat} (h:i+(r+1)=8*n) (hn:n<=100000):i<1000000000000/\8*n-r=i+1:=by omega
theorem and_u8 (a:Nat) (ha:a<256):bits .and .u8 (a:Int) 1=((a % 2:Nat):Int):=by
 show IntKind.u8.wrap ((BitVec.ofInt 8 (a:Int)&&& BitVec.ofInt 8 1).toNat:Int)=_;have h1:(BitVec.ofInt 8 (a:Int)).toNat=a:=by rw[BitVec.ofInt_natCast,BitVec.toNat_ofNat];exact Nat.mod_eq_of_lt (by omega)
 have h2:(BitVec.ofInt 8 1).toNat=1:=rfl;rw[BitVec.toNat_and,h1,h2,Nat.and_one_is_mod];have h3:a % 2<2:=Nat.mod_lt _ (by omega);generalize a % 2=y at*
 simp[IntKind.wrap,IntKind.bits,IntKind.signed];omega
theorem or_u32 (c b:Nat) (hc:c<2147483648) (hb:b<2):bits .or .u32 ((2*c:Nat):Int) (b:Int)=((2*c+b:Nat):Int):=by
 show IntKind.u32.wrap ((BitVec.ofInt 32 ((2*c:Nat):Int)|||BitVec.ofInt 32 (b:Int)).toNat:Int)=_;have h1:(BitVec.ofInt 32 ((2*c:Nat):Int)).toNat=2*c:=by rw[BitVec.ofInt_natCast,BitVec.toNat_ofNat];exact Nat.mod_eq_of_lt (by omega)
 have h2:(BitVec.ofInt 32 (b:Int)).toNat=b:=by rw[BitVec.ofInt_natCast,BitVec.toNat_ofNat];exact Nat.mod_eq_of_lt (by omega)
 have h3:2*c|||b=2*c+b:=by
  have:=Nat.shiftLeft_add_eq_or_of_lt (i:=1) (b:=b) (by omega) c;rw[Nat.shiftLeft_eq]at this;rw[show 2*c=c*2^1 by omega];exact this.symm
 rw[BitVec.toNat_or,h1,h2,h3];simp[IntKind.wrap,IntKind.bits,IntKind.signed];omega
theorem bit_off (code x d:Nat) (hc:code<1073741824) (hx:x<256) (bt:Bool) (hb:bt.toNat=x/2^d % 2):
 bits .or .u32 ((code:Int)*2 % 4294967296) (bits .and .u8 ((x:Int)/2^d) 1 % 4294967296)=((2*code+bt.toNat:Nat):Int):=by
 have h0:((x:Int)/2^d)=((x/2^d:Nat):Int):=by
  rw[Int.natCast_ediv]
  congr 1
 have h1:x/2^d<256:=Nat.lt_of_le_of_lt (Nat.div_le_self _ _) hx;rw[h0,and_u8 _ h1,<-hb];have h2:bt.toNat<2:=Bool.toNat_lt bt;have h3:((bt.toNat:Nat):Int) % 4294967296=((bt.toNat:Nat):Int):=by omega
 have h4:(code:Int)*2 % 4294967296=((2*code:Nat):Int):=by omega
 rw[h3,h4,or_u32 code _ (by omega) h2]
theorem bl_at:∀(n c i:Nat),i<n->(bl n c)[i]?=some (c.testBit (n-1-i))
 |0,c,i,h=>by omega
 |n+1,c,0,h=>by simp[bl]
 |n+1,c,i+1,h=>by
  rw[bl,List.getElem?_cons_succ,bl_at n c i (by omega)]
  congr 2
  omega
theorem bl_len:∀(n c:Nat),(bl n c).length=n
 |0,c=>rfl
 |n+1,c=>by rw[bl,List.length_cons,bl_len n c]
theorem unpack_len:∀l:List UInt8,(unpack l).length=8*l.length
 |[]=>rfl
 |x::l=>by
  have h:=unpack_len l;unfold unpack at*
  rw[List.flatMap_cons,List.length_append,h,bb,bl_len,List.length_cons];omega
theorem unpack_at:∀(l:List UInt8) (i:Nat),i<8*l.length->(unpack l)[i]?=some ((l.getD (i/8) 0).toNat.testBit (7-i % 8))
 |[],i,h=>by simp at h
 |x::l,i,h=>by
  have e:unpack (x::l)=bb x++unpack l:=List.flatMap_cons ..;rw[e];by_cases h8:i<8
  · rw[List.getElem?_append_left (by rw[bb,bl_len];exact h8),bb,bl_at 8 _ i h8]
    have:i/8=0:=by omega
    rw[this,List.getD_cons_zero]
    congr 2
    omega
  · rw[List.getElem?_append_right (by rw[bb,bl_len];omega),bb,bl_len,unpack_at l (i-8) (by simp at h;omega)]
    have h1:i/8=(i-8)/8+1:=by omega
    have h2:(i-8) % 8=i % 8:=by omega
    rw[h1,List.getD_cons_succ,h2]
structure MM (w W:World) (gm ga code nb:Nat) (out:List Nat) (ov:Value):Prop where
 km:KM Tryz.prog 324 W gm 257 (kf 257)
 at_:Blk W ga 324 #[.int .u32 (code:Nat),.int .i64 (nb:Nat)]
 ow:Ow W w.heap.size 5 ov out.length (out.map UInt8.ofNat)
 low:Below w.heap.size w W
 gm1:w.heap.size<=gm
 ga1:w.heap.size<=ga
 hne:gm≠ga
 om:∀g,ov.ownBlock=some g->g≠gm/\g≠ga
structure HP (l:List UInt8) (n code nb:Nat) (rest:List Bool) (out:List Nat):Prop where
 cb:code<2^nb
 nb30:nb<30
 len:rest.length<=8*n
 tail:(unpack l).drop (8*n-rest.length)=rest
 goes:(dec code nb rest).map (out++·)=dec 0 0 (unpack l)
 few:out.length+rest.length<=8*n
section
variable {w W W':World} {gm ga code nb:Nat} {out:List Nat} {ov:Value}
theorem MM.put2 (h:MM w W gm ga code nb out ov) (c' n':Nat):MM w ((W.setCell ⟨ga,0,none⟩ (.int .u32 (c':Nat))).setCell ⟨ga,1,none⟩ (.int .i64 (n':Nat))) gm ga c' n' out ov:=by
 have hg:W.grownBy ((W.setCell ⟨ga,0,none⟩ (.int .u32 (c':Nat))).setCell ⟨ga,1,none⟩ (.int .i64 (n':Nat))) (some ga):=
  grown_setCell (grown_setCell (World.grownBy.refl W (some ga)) 0 _) 1 _
 refine⟨h.km.kept hg (by simp[h.hne]),?_,h.ow.grown hg (.inr λe=>(h.om ga e).2 rfl),h.low.grown hg h.low.size (λj e=>by injection e with e;have:=h.ga1;omega),h.gm1,h.ga1,h.hne,h.om⟩;have h1:=(h.at_.put 0 (.int .u32 (c':Nat))).put 1 (.int .i64 (n':Nat));simp only[List.setIfInBounds_toArray,List.set_cons_zero,List.set_cons_succ]at h1;exact h1
theorem MM.drew (h:MM w W gm ga code nb out ov):MM w W.drew gm ga code nb out ov:=⟨h.km.kept (grown_drewN (World.grownBy.refl W none) 1) (by simp),h.at_,h.ow,bdN h.low 1,h.gm1,h.ga1,h.hne,h.om⟩
theorem MM.alloc (h:MM w W gm ga code nb out ov) (o:Obj):MM w (W.alloc o) gm ga code nb out ov:=⟨h.km.alloc o,h.at_.alloc o,h.ow.alloc o,h.low.alloc h.low.size o,h.gm1,h.ga1,h.hne,h.om⟩
theorem MM.app (h:MM w W gm ga code nb out ov) {v:Value} {x:Nat} (ho:Ow W' w.heap.size 5 v (out.length+1) (out.map UInt8.ofNat++[UInt8.ofNat x])) (hg:W.grownBy W' ov.ownBlock) (hv:v.ownBlock=ov.ownBlock\/v.ownBlock=some W.heap.size):MM w W' gm ga code nb (out++[x]) v:=by
 have h1:=h.km.lt;have h2:=h.at_.lt;refine⟨h.km.kept hg (λe=>(h.om gm e.symm).1 rfl),h.at_.grown hg (λe=>(h.om ga e.symm).2 rfl),?_,h.low.grown hg h.low.size (λj e=>(h.ow.lt e).2),h.gm1,h.ga1,h.hne,λg e=>?_⟩
 · rw[List.map_append,List.length_append]
   exact ho
 · rcases hv with hv|hv
   · exact h.om g (hv▸e)
   · rw[hv]at e
     injection e with e
     omega
end
section
variable {l:List UInt8} {n code nb:Nat} {bt:Bool} {rest:List Bool} {out:List Nat}
theorem HP.tail1 (h:HP l n code nb (bt::rest) out):(unpack l).drop (8*n-rest.length)=rest:=by
 have h1:=congrArg (List.drop 1) h.tail;rw[List.drop_drop]at h1;have h2:=h.len;simp only[List.length_cons]at h1 h2;rw[show 8*n-(rest.length+1)+1=8*n-rest.length by omega]at h1;exact h1
theorem bt_lt {c n:Nat} (bt:Bool) (h:c<2^n):2*c+bt.toNat<2^(n+1):=by
 have:=Bool.toNat_lt bt;rw[Nat.pow_succ];omega
theorem HP.miss (h:HP l n code nb (bt::rest) out) (hk:Hf.look (2*code+bt.toNat) (nb+1)=none) (hn:nb+1<30):HP l n (2*code+bt.toNat) (nb+1) rest out:=by
 have h1:=h.goes;have h2:Nat.blt (nb+1) 30=true:=Nat.ble_eq_true_of_le hn;rw[dec,hk]at h1;simp only[h2,cond_true]at h1;exact⟨bt_lt bt h.cb,hn,by have:=h.len;simp at this;omega,h.tail1,h1,by have:=h.few;simp at this;omega⟩
theorem HP.long (h:HP l n code nb (bt::rest) out) (hk:Hf.look (2*code+bt.toNat) (nb+1)=none) (hn:¬nb+1<30):Hk.decH l=none:=by
 have h1:=h.goes;have h2:Nat.blt (nb+1) 30=false:=by
  cases hq:Nat.blt (nb+1) 30 with
  |false=>rfl
  |true=>exact absurd (Nat.le_of_ble_eq_true hq) hn
 rw[dec,hk]at h1;simp only[h2,cond_false,Option.map_none]at h1;unfold Hk.decH;rw[<-h1]
 rfl
theorem HP.eos (h:HP l n code nb (bt::rest) out) (hk:Hf.look (2*code+bt.toNat) (nb+1)=some 256):Hk.decH l=none:=by
 have h1:=h.goes;rw[dec,hk]at h1;simp only[show Nat.beq 256 256=true from rfl,cond_true,Option.map_none]at h1;unfold Hk.decH;rw[<-h1]
 rfl
theorem HP.hit (h:HP l n code nb (bt::rest) out) {s:Nat} (hk:Hf.look (2*code+bt.toNat) (nb+1)=some s) (hs:s≠256):HP l n 0 0 rest (out++[s]):=by
 have h1:=h.goes;have h6:Nat.beq s 256=false:=by
  cases hq:Nat.beq s 256 with
  |false=>rfl
  |true=>exact absurd (Nat.eq_of_beq_eq_true hq) hs
 rw[dec,hk]at h1;simp only[h6,cond_false,Option.map_map]at h1;refine⟨by decide,by decide,by have:=h.len;simp at this;omega,h.tail1,?_,by have:=h.few;simp at this ⊢;omega⟩;rw[<-h1]
 congr 1
 funext x
 simp
theorem HP.ends (h:HP l n code nb [] out) (hb:nb<8) (hc:code=2^nb-1):Hk.decH l=some (out.map UInt8.ofNat):=by
 have h1:=h.goes;have h2:Nat.blt nb 8=true:=Nat.ble_eq_true_of_le hb;have h3:Nat.beq code (2^nb-1)=true:=by rw[hc];exact Nat.beq_refl _
 rw[dec,h2,h3]at h1;unfold Hk.decH;rw[<-h1];simp
theorem HP.bad (h:HP l n code nb [] out) (hb:¬(nb<8/\code=2^nb-1)):Hk.decH l=none:=by
 have h1:=h.goes;have h2:(Nat.blt nb 8&&Nat.beq code (2^nb-1))=false:=by
  rw[Bool.eq_false_iff];intro h;rw[Bool.and_eq_true]at h;exact hb ⟨Nat.le_of_ble_eq_true h.1,Nat.eq_of_beq_eq_true h.2⟩
 rw[dec,h2]at h1;unfold Hk.decH;rw[<-h1]
 rfl
end
structure HJ (w:World) (l:List UInt8) (A:Option Addr) (n c:Nat) (a:Act) (W:World) (gm ga code nb:Nat) (rest:List Bool) (out:List Nat) (ov:Value):Prop where
 ha:HA a (.slice A n c) (.map (some gm)) ov (.pointer (some ⟨ga,0,none⟩)) (.int .i64 (8*n-rest.length:Nat))
 m:MM w W gm ga code nb out ov
 p:HP l n code nb rest out
def HL (w:World) (l:List UInt8) (A:Option Addr) (n c:Nat) (lb:Nat) (a:Act) (W:World):Prop:=
 (lb=1/\∃gm ga code nb rest out ov,HJ w l A n c a W gm ga code nb rest out ov)\/(lb=0/\∃gm ga code nb out ov,HJ w l A n c a W gm ga code nb [] out ov)\/
 (lb=2/\a.defers=[]/\a.tmps.size=90/\Hk.decH l=none/\Below w.heap.size w W)
def muL (n lb:Nat) (a:Act):Nat:=if lb=1 then 2+(8*n-(intOf (a.tmps.getD 11 undef)).toNat)else if lb=0 then 1 else 0
def HdPost (w:World) (l:List UInt8) (ev:Value) (e:Ending) (w':World):Prop:=
 Below w.heap.size w w'/\((∃s,Hk.decH l=some s/\e= .returned (.tuple #[.string ⟨s.toArray⟩,.nilIface]))\/(Hk.decH l=none/\e= .returned (.tuple #[.string ⟨#[]⟩,ev])))
theorem hdec_any (A:Option Addr) (n c B:Nat) (l:List UInt8) (ev:Value) (w:World) (hr:Rd w B A n l) (hB:B<=w.heap.size) (hc:n<=c) (hn:n<=100000) (he:w.cell? ⟨16,0,none⟩=some ev) (hg:16<w.heap.size):
 Calls Tryz.prog 275 #[.slice A n c] w (HdPost w l ev):=by
 have HD:=λW=>run_mkMap (P:=Tryz.prog) 322 W;have H2:=hid (KM.made Tryz.prog 324 w);have H3:=hid ((Below.refl w.heap.size w).alloc (Nat.le_refl _) (.map #[] 0));have HC:=hid (λW=>hcodes_any W);go_enter Tryz.func275,Tryz.ntmps275;go_wp2_with fail;refine wp_scope_many (HL w l A n c) (λlb a _=>muL n lb a) ?_ ?_ ?_
 · rintro lb a W (⟨rfl,_⟩|⟨rfl,_⟩|⟨rfl,_⟩)<;>exact⟨_,rfl⟩
 · intro hL
   go_upto_region 2 with fail;generalize w.alloc (.map #[] 0)=W0 at*
   go_wp2_with (first
    |(go_at_call 214
      with_reducible refine Calls.mono (HC.out _) ?_
      rintro e w1 ⟨v,rfl,hv,hb⟩;have HV:=hid hv;have Hg:=hid (H3.out.trans (hb.mono H3.out.size));have h4:=hid (H2.out.below hb H2.out.lt);clear hv hb)
    |fail)
   go_loopw [16] (λt wr=>∃k:Nat,k<=257/\t= .int .i64 (k:Int)/\Hid (KM Tryz.prog 324 wr w.heap.size k (kf k)/\Below w.heap.size w wr)) (λt _=>257-(intOf t).toNat)
   case atStart=>exact⟨0,by omega,rfl,hid ⟨h4.out.same (λv=>by rw[kf,dif_neg];rintro⟨s,hs,_⟩;omega),Hg.out⟩⟩
   case round=>
    obtain⟨k,hk,rfl,hh⟩:=hrel;by_cases hH:k<257
    · have HF:=idx_cod HV.out hH
      have Hh:=hid (λW=>hbits_any k hH W);have hY:=sz_in hH;have hI:=nx_le (b:=sz k) (s:=k) (by omega);rw[<-cd_nx hH]at hI;obtain⟨kl,hD⟩:=word_key (cd k) (sz k) (by omega) (by omega);have HK:=hid hD;have HN:=hid (show k<maxLen by simp only[maxLen];omega);have Hi:=hid (kf_at (k:=k+1) (s:=k) (by omega) (by omega));have Hj:=hid (λ(v:Value) (h:v≠wd (cd k) (sz k))=>kf_other v hH h);have HG:wrap64 ((k:Int)+1)=((k+1:Nat):Int):=by unfold wrap64;omega
      have HH:(k:Int)<257:=by omega
      clear hY hI hD;generalize cd k=x0 at*
      generalize sz k=x1 at*
      go_wp2_with (first
       |(go_at_call 213
         with_reducible refine Calls.mono (Hh.out _) ?_
         rintro e w2 ⟨rfl,hw⟩;subst w2)
       |(refine wpList_kput _ rfl (.tmp 25) (.tmp 28) (.tmp 29) 322 (.inr rfl) Tryz.underlying322 word_keyed w.heap.size k (kf k) rfl hh.out.1 HN.out (wd x0 x1) kl HK.out rfl (.int .i64 (k:Nat)) rfl (kf (k+1)) Hi.out Hj.out ?_
         intro w3 hm hg;have hf:=hid hm;have Hl:=hid (hh.out.2.grown hg hh.out.2.size (λj e=>by injection e with e;omega));clear hm hg)
       |fail)
      go_roundw
      case rel=>exact⟨k+1,by omega,by go_num,hid ⟨hf.out,Hl.out⟩⟩
      case measure=>simp[intOf];omega
    · obtain rfl:k=257:=by omega
      have H4:=hid hh.out.1;have hR:=hid hh.out.2;clear hh;go_wp2_with fail;go_step3;rename_i hK;refine hK _ _ (hL 1 _ rfl _ _ ?_);have H5:(unpack l).length=8*n:=by rw[unpack_len,hr.1]
      have HO:=H4.out.lt;refine .inl ⟨rfl,w.heap.size,wr.heap.size,0,0,unpack l,[],.slice none 0 0,⟨rfl,rfl,rfl,rfl,rfl,rfl,?_⟩,⟨H4.out.alloc _,Blk.new wr _ _,⟨rfl,.inl ⟨rfl,rfl⟩⟩,hR.out.alloc hR.out.size _,Nat.le_refl _,hR.out.size,by omega,(λg e=>by cases e)⟩,⟨by decide,by decide,by omega,?_,?_,by simp;omega⟩⟩
      · show Value.int .i64 0=_
        rw[H5,Nat.sub_self];rfl
      · rw[H5,Nat.sub_self];rfl
      · cases dec 0 0 (unpack l)<;>simp
 · rintro lb r hl a W (⟨rfl,gm,ga,code,nb,rest,out,ov,hj⟩|⟨rfl,gm,ga,code,nb,out,ov,hj⟩|⟨rfl,hd,hz,h3,ht⟩)
   · injection hl with hl
     injection hl with _ hl
     subst hl;obtain⟨u,rfl⟩:=hj.ha.lit;have hE:=hid hj;have hS:=hr.below (hj.m.low.mono hB);obtain⟨i,hi⟩:∃i,8*n-rest.length=i:=⟨_,rfl⟩;have hJ:=hj.p.len;rw[hi];cases rest with
     |nil=>
      have h8:((i:Int)==8*(n:Int))=true:=by simp at hi;simp;omega
      have hz:=hE.out;clear hj hS;go_wp2;go_step3;refine⟨.inr (.inl ⟨rfl,gm,ga,code,nb,out,ov,⟨⟨rfl,rfl,rfl,rfl,rfl,rfl,?_⟩,hz.m,hz.p⟩⟩),?_⟩
      · rw[hi];rfl
      · simp[muL];omega
     |cons bt rest=>
      have hM:rest.length+1<=8*n:=hJ;have hN:i+(rest.length+1)=8*n:=by rw[<-hi];simp;omega
      have h8:((i:Int)==8*(n:Int))=false:=by simp;omega
      obtain⟨q,hq⟩:∃q,i/8=q:=⟨_,rfl⟩;obtain⟨r,hO⟩:∃r,i % 8=r:=⟨_,rfl⟩;have hT:q<n:=by omega
      obtain⟨ad,hA,HQ,hcell⟩:=hS.at_ hT;subst hA;have H7:bt=(l.getD q 0).toNat.testBit (7-r):=by
       have h1:=unpack_at l i (by rw[hr.1];omega);rw[hq,hO]at h1;have h2:=congrArg (λz=>z[0]?) hj.p.tail;simp only[List.getElem?_drop,hi,Nat.add_zero,h1,List.getElem?_cons_zero]at h2;injection h2 with h2
       exact h2.symm
      have H8:bt.toNat=(l.getD q 0).toNat/2^(7-r) % 2:=by rw[H7,Nat.toNat_testBit]
      have Hm:=hid H8;have Hn:=hid (show(l.getD q 0).toNat<256 from(l.getD q 0).toNat_lt);generalize (l.getD q 0).toNat=x at*
      have g0:W.cell? ⟨ga,0,none⟩=some (.int .u32 (code:Nat)):=hj.m.at_.cell 0;have g1:W.cell? ⟨ga,1,none⟩=some (.int .i64 (nb:Nat)):=hj.m.at_.cell 1;have f0:=hj.m.at_.frozen 0;have f1:=hj.m.at_.frozen 1;have HR:=hj.m.at_.lt;have hZ:((i:Int)).tdiv 8=(q:Int):=by rw[<-hq];rfl
      have H0:((i:Int)).tmod 8=(r:Int):=by rw[<-hO];rfl
      have Ho:(q:Int)<(n:Int):=by omega
      have Hp:wrap64 (7-(r:Int))=((7-r:Nat):Int):=by unfold wrap64;omega
      clear hj hS H8 H7 hJ hM;go_upto_region 12 with fail;go_region;all_goals
       have hv:=bit_off code x (7-r) (by have:=hE.out.p.cb;have:=hE.out.p.nb30;have h:=Nat.pow_le_pow_right (n:=2) (by omega) (show nb<=29 by omega);have:(2:Nat)^29=536870912:=rfl;omega) Hn.out bt Hm.out;have hw:wrap64 ((nb:Int)+1)=((nb+1:Nat):Int):=by have:=hE.out.p.nb30;unfold wrap64;omega
       rw[hv,hw];have h4:=hid (hE.out.m.put2 (2*code+bt.toNat) (nb+1)).drew;have h5:=hid hE.out.p;clear hv hw g0 g1 f0 f1 hcell hZ H0 Ho Hp;obtain⟨c1,hP⟩:∃c1,2*code+bt.toNat=c1:=⟨_,rfl⟩;obtain⟨n1,hU⟩:∃n1,nb+1=n1:=⟨_,rfl⟩;have h6:=hid (And.intro hP hU);rw[hP,hU]at h4 ⊢;have ho:c1<4294967296:=by have h0:=bt_lt bt h5.out.cb;rw[hP]at h0;have h:=Nat.pow_le_pow_right (n:=2) (by omega) (show nb+1<=30 by have:=h5.out.nb30;omega);have:(2:Nat)^30=1073741824:=rfl;omega
       have hu:n1<=1000:=by have:=h5.out.nb30;omega
       obtain⟨kl,hD⟩:=word_key c1 n1 ho hu;clear hP hU;generalize (((W.setCell ⟨ga,0,none⟩ (.int .u32 (c1:Nat))).setCell ⟨ga,1,none⟩ (.int .i64 (n1:Nat)))).drew=W1 at*
       have hF:=h4.out.km.look_ok Tryz.underlying322 word_keyed (z:=.int .i64 0) (by kernel_rfl) hD;rw[kf_look]at hF;simp only[wd]at hF;have Hq:=hid (show W1.cell? ⟨16,0,none⟩=some ev from(World.cell?_of_block (a:=⟨16,0,none⟩) (h4.out.low.block _ hg)).trans he);have q0:W1.cell? ⟨ga,0,none⟩=some (.int .u32 (c1:Nat)):=h4.out.at_.cell 0;have q1:W1.cell? ⟨ga,1,none⟩=some (.int .i64 (n1:Nat)):=h4.out.at_.cell 1;have hV:=(ib_of hN hn).1;have HT:=w64_succ i hV;have HU:=i64_succ i hV;clear hV;have HI:=hid (ib_of hN hn).2;cases hk:Hf.look c1 n1 with
       |none=>
        rw[hk]at hF;simp only[Option.map_none,Option.getD_none,Option.isSome_none]at hF;have HK:=hid hk;clear hk hD ho hu hN h8 hT hq hO hi;by_cases H9:n1<30
        · have H1:(n1:Int)<30:=by omega
          go_wp2_with fail;go_step3;have hQ:=h5.out.miss (by rw[h6.out.1,h6.out.2];exact HK.out) (by rw[h6.out.2];exact H9);rw[h6.out.1,h6.out.2]at hQ;refine⟨.inl ⟨rfl,gm,ga,c1,n1,rest,out,ov,⟨⟨rfl,rfl,rfl,rfl,rfl,rfl,?_⟩,h4.out,hQ⟩⟩,?_⟩
          · rw[HI.out];rfl
          · simp[muL,intOf];have:=HI.out;have:=h5.out.len;simp at this;omega
        · have H1:¬(n1:Int)<30:=by omega
          have h3:=h5.out.long (by rw[h6.out.1,h6.out.2];exact HK.out) (by rw[h6.out.2];exact H9);have h7:=hid h3;have e1:=Hq.out;clear h3;go_wp2_with fail;apply wp_label;go_wp2_with fail;go_quiet (fail);go_wp2_with fail;go_ret2;exact⟨bdN h4.out.low _,.inr ⟨h7.out,rfl⟩⟩
       |some s=>
        rw[hk]at hF;simp only[Option.map_some,Option.getD_some,Option.isSome_some]at hF;have HK:=hid hk;have HS:=hid (look_is hk).1;clear hk hD ho hu hN h8 hT hq hO hi;by_cases hC:s=256
        · subst hC
          have h3:=h5.out.eos (by rw[h6.out.1,h6.out.2];exact HK.out);have h7:=hid h3;clear h3;go_wp2_with fail;go_step3;exact⟨.inr (.inr ⟨rfl,rfl,rfl,h7.out,h4.out.low⟩),by simp[muL];omega⟩
        · have hs:s<256:=by have:=HS.out;omega
          have HW:((s:Int)==256)=false:=by simp;omega
          have HX:¬(s:Int)=256:=by omega
          have HY:IntKind.u8.wrap (s:Int)=(s:Int):=by simp[IntKind.wrap,IntKind.bits,IntKind.signed];omega
          have Hs:=hid (show(s:Int)=((UInt8.ofNat s).toNat:Int)by rw[Hk.toNat_of s hs]);have Ht:=hid hC;clear hs hC;obtain⟨Ao,co,hW,_,_⟩:=h4.out.ow.form;subst hW;have hX:=hid (h4.out.alloc (.cells #[.int .u8 (s:Int)] 5));have Hu:=hid (Rd.one W1 (s:Int) (UInt8.ofNat s) 5 Hs.out);have Hv:=hid (show out.length+1<=140737488355328 by have:=h5.out.few;simp at this;omega);go_wp2_with (first
           |(at_builtin
             refine wpList_app_any _ byteP rfl (.tmp 66) (.tmp 69) rfl w.heap.size (.slice Ao out.length co) out.length (out.map UInt8.ofNat) rfl hX.out.ow (W1.heap.size+1) (some ⟨W1.heap.size,0,none⟩) 1 1 [UInt8.ofNat s] rfl Hu.out Hv.out hX.out.low.size ?_;intro A3 c3 w3 Ha Hb Hc _ _;have hf:=hid (hX.out.app Ha Hb Hc);clear Ha Hb Hc q0 q1;have q0:w3.cell? ⟨ga,0,none⟩=some (.int .u32 (c1:Nat)):=hf.out.at_.cell 0;have q1:w3.cell? ⟨ga,1,none⟩=some (.int .i64 (n1:Nat)):=hf.out.at_.cell 1;have p0:=hf.out.at_.frozen 0;have p1:=hf.out.at_.frozen 1;have HB:=hf.out.at_.lt)
           |fail)
          go_step3;have hQ:=h5.out.hit (by rw[h6.out.1,h6.out.2];exact HK.out) Ht.out;have Hx:=hf.out.put2 0 0;refine⟨.inl ⟨rfl,gm,ga,0,0,rest,out++[s],.slice A3 (out.length+1) c3,⟨⟨rfl,rfl,rfl,rfl,rfl,rfl,?_⟩,Hx,hQ⟩⟩,?_⟩
          · rw[HI.out];rfl
          · simp[muL,intOf];have:=HI.out;have:=h5.out.len;simp at this;omega
   · injection hl with hl
     injection hl with _ hl
     subst hl;obtain⟨u,rfl⟩:=hj.ha.lit;have h4:=hid hj.m;have h5:=hid hj.p;have q0:W.cell? ⟨ga,0,none⟩=some (.int .u32 (code:Nat)):=hj.m.at_.cell 0;have q1:W.cell? ⟨ga,1,none⟩=some (.int .i64 (nb:Nat)):=hj.m.at_.cell 1;obtain⟨Ao,co,hW,_,_,He⟩:=hj.m.ow.form;have HZ:=λk=>run_str (P:=Tryz.prog) (c:=co) 22 9 5 Tryz.underlying22 Tryz.underlying5 Tryz.underlying9 (He.drewN k);subst hW;have ho:=hj.p.cb;clear hj He;by_cases h8:nb<8
     · by_cases hG:code=2^nb-1
       · have HE:=hid (h5.out.ends h8 hG)
         have:nb=0\/nb=1\/nb=2\/nb=3\/nb=4\/nb=5\/nb=6\/nb=7:=by omega
         subst hG;rcases this with rfl|rfl|rfl|rfl|rfl|rfl|rfl|rfl
         all_goals
          clear h8 ho;go_wp2_with fail;go_quiet (fail);go_wp2_with fail;go_ret2;exact⟨bdN h4.out.low _,.inl ⟨_,HE.out,rfl⟩⟩
       · have h3:=h5.out.bad (λh=>hG h.2)
         have h7:=hid h3;have:nb=0\/nb=1\/nb=2\/nb=3\/nb=4\/nb=5\/nb=6\/nb=7:=by omega
         clear h3;rcases this with rfl|rfl|rfl|rfl|rfl|rfl|rfl|rfl
         · exact absurd (show code=0 by have:=h5.out.cb;omega) hG
         all_goals
          simp only[Nat.reducePow,Nat.reduceSub]at hG;clear h8 ho;have g2:decide (code=_)=false:=decide_eq_false hG;go_wp2_with fail;go_quiet (fail);go_wp2_with fail;go_step3;exact⟨.inr (.inr ⟨rfl,rfl,rfl,h7.out,bdN h4.out.low _⟩),by simp[muL]⟩
     · have h3:=h5.out.bad (λh=>h8 h.1)
       have h7:=hid h3;have h9:((nb:Int)<8)=False:=by simp;omega
       have g3:(8:Int)<=(nb:Int):=by omega
       have g4:decide ((8:Int)<=(nb:Int))=true:=by simp;omega
       clear h3 h8 ho;go_wp2_with fail;go_quiet (fail);go_wp2_with fail;go_step3;exact⟨.inr (.inr ⟨rfl,rfl,rfl,h7.out,bdN h4.out.low _⟩),by simp[muL]⟩
   · injection hl with hl
     injection hl with _ hl
     subst hl;have h7:=hid h3;have Hy:=hid ht;have e1:W.cell? ⟨16,0,none⟩=some ev:=(World.cell?_of_block (a:=⟨16,0,none⟩) (ht.block _ hg)).trans he;obtain⟨u,rfl⟩:=lit0 hd hz;clear h3 ht;go_wp2_with fail;go_quiet (fail);go_wp2_with fail;go_ret2;exact⟨bdN Hy.out _,.inr ⟨h7.out,rfl⟩⟩
end Go.Proofs.YtkpppjhbmnfmkaaGreatDoor
end

section
namespace Go.Own.Hf
theorem bb_len (x:UInt8):(bb x).length=8:=rfl
theorem val_bb_all:∀n<256,val 0 (bl 8 n)=n:=by decide+kernel
theorem val_bb (x:UInt8):val 0 (bb x)=x.toNat:=val_bb_all _ x.toNat_lt
theorem bb_inj {x y:UInt8} (h:bb x=bb y):x=y:=UInt8.toNat_inj.1 (by rw[<-val_bb x,<-val_bb y,h])
theorem unpack_cons (x:UInt8) (l:List UInt8):unpack (x::l)=bb x++unpack l:=rfl
theorem unpack_app (a b:List UInt8):unpack (a++b)=unpack a++unpack b:=by simp[unpack]
theorem unpack_one (x:UInt8):unpack [x]=bb x:=by simp[unpack]
theorem unpack_len (l:List UInt8):(unpack l).length=8*l.length:=by
 induction l with
 |nil=>rfl
 |cons x l ih=>rw[unpack_cons,List.length_append,bb_len,ih,List.length_cons];omega
theorem unpack_inj:∀(a b:List UInt8),unpack a=unpack b->a=b
 |[],[],_=>rfl
 |[],y::b,h=>by have:=congrArg List.length h;rw[unpack_len,unpack_len]at this;simp at this
 |x::a,[],h=>by have:=congrArg List.length h;rw[unpack_len,unpack_len]at this;simp at this
 |x::a,y::b,h=>by
  rw[unpack_cons,unpack_cons]at h;obtain⟨h1,h2⟩:=List.append_inj h (by rw[bb_len,bb_len]);rw[bb_inj h1,unpack_inj a b h2]
theorem pack_is {o:List UInt8} {L:List Bool} {p:Nat} (h:unpack o=L++List.replicate p true) (hp:p<8):o=pack L.length L:=by
 obtain⟨q,hq,e⟩:=unpack_pack L.length L (by omega);have h1:=congrArg List.length h;have h2:=congrArg List.length e;rw[unpack_len,List.length_append,List.length_replicate]at h1 h2;have:p=q:=by omega
 subst this;exact unpack_inj _ _ (h.trans e.symm)
theorem val_app:∀(a b:List Bool) (c:Nat),val c (a++b)=val (val c a) b
 |[],b,c=>rfl
 |x::a,b,c=>by rw[List.cons_append,val,val,val_app a b]
theorem val_mul:∀(l:List Bool) (c:Nat),val c l=c*2^l.length+val 0 l
 |[],c=>by simp[val]
 |b::l,c=>by
  rw[val,val_mul l,val,val_mul l (2*0+b.toNat),List.length_cons,Nat.pow_succ];rw[Nat.add_mul,Nat.add_mul,Nat.mul_comm 2 c,Nat.mul_assoc c 2,Nat.mul_comm 2 (2^l.length)];omega
theorem val_lt:∀(l:List Bool),val 0 l<2^l.length
 |[]=>by simp[val]
 |b::l=>by
  have h:=val_lt l;rw[val,val_mul l,List.length_cons,Nat.pow_succ];have hb:b.toNat<=1:=by cases b<;>decide
  have:(2*0+b.toNat)*2^l.length<=1*2^l.length:=Nat.mul_le_mul_right _ (by omega);omega
theorem val_split (a b:List Bool):val 0 (a++b)=val 0 a*2^b.length+val 0 b:=by rw[val_app,val_mul]
theorem bl_len:∀n c,(bl n c).length=n
 |0,_=>rfl
 |n+1,c=>by rw[bl,List.length_cons,bl_len n c]
theorem val_bl:∀(n c:Nat),c<2^n->val 0 (bl n c)=c
 |0,c,h=>by have:c=0:=by simpa using h
            subst this;rfl
 |n+1,c,h=>by
  rw[bl,val,val_mul,bl_len];have e:val 0 (bl n c)=val 0 (bl n (c % 2^n)):=by
   congr 1
   have:∀m,m<=n->bl m c=bl m (c % 2^n):=by
    intro m
    induction m with
    |zero=>intro _;rfl
    |succ m ih=>
     intro hm;rw[bl,bl,ih (by omega),Nat.testBit_mod_two_pow];simp[show m<n by omega]
   exact this n (Nat.le_refl n)
  rw[e,val_bl n (c % 2^n) (Nat.mod_lt _ (Nat.pow_pos (by omega)))];have hp:0<2^n:=Nat.pow_pos (by omega);have hd:c/2^n<2:=by rw[Nat.div_lt_iff_lt_mul hp];rw[Nat.pow_succ]at h;omega
  have hb:(c.testBit n).toNat=c/2^n:=by
   rw[Nat.testBit_eq_decide_div_mod_eq];have h2:c/2^n % 2=c/2^n:=Nat.mod_eq_of_lt hd;rw[h2];generalize c/2^n=q at hd ⊢;rcases q with _|_|q
   · rfl
   · rfl
   · omega
  rw[hb,Nat.mul_zero,Nat.zero_add,Nat.mul_comm];exact Nat.div_add_mod c (2^n)
def EncI (L:List Bool) (o:List UInt8) (x n:Nat):Prop:=∃r:List Bool,unpack o++r=L/\x=val 0 r/\n=r.length
theorem EncI.nil:EncI [] [] 0 0:=⟨[],rfl,rfl,rfl⟩
theorem EncI.lt {L:List Bool} {o:List UInt8} {x n:Nat} (h:EncI L o x n):x<2^n:=by
 obtain⟨r,_,rfl,rfl⟩:=h;exact val_lt r
theorem EncI.sym {L:List Bool} {o:List UInt8} {x n:Nat} (h:EncI L o x n) (s:Nat) (hc:cd s<2^sz s):EncI (L++codeB s) o (x*2^sz s+cd s) (n+sz s):=by
 obtain⟨r,hr,rfl,rfl⟩:=h;refine⟨r++codeB s,by rw[<-List.append_assoc,hr],?_,by rw[List.length_append,codeB,bl_len]⟩;rw[val_split,codeB,bl_len,val_bl _ _ hc]
theorem EncI.byte {L:List Bool} {o:List UInt8} {x n:Nat} (h:EncI L o x n) (h8:8<=n):x/2^(n-8)<256/\EncI L (o++[UInt8.ofNat (x/2^(n-8))]) (x % 2^(n-8)) (n-8):=by
 obtain⟨r,hr,rfl,rfl⟩:=h;obtain⟨a,b,c,d,e,f,g,i,r,rfl⟩:=take8 h8;have hs:=val_split [a,b,c,d,e,f,g,i] r;have hl:=val_lt r;have h1:=val_lt [a,b,c,d,e,f,g,i];have hp:0<2^r.length:=Nat.pow_pos (by omega);have en:(a::b::c::d::e::f::g::i::r).length-8=r.length:=by simp
 have hs:val 0 (a::b::c::d::e::f::g::i::r)=_:=hs;rw[en,hs];have hq:(val 0 [a,b,c,d,e,f,g,i]*2^r.length+val 0 r)/2^r.length=val 0 [a,b,c,d,e,f,g,i]:=by
  rw[Nat.mul_comm,Nat.mul_add_div hp,Nat.div_eq_of_lt hl,Nat.add_zero]
 have hm:(val 0 [a,b,c,d,e,f,g,i]*2^r.length+val 0 r) % 2^r.length=val 0 r:=by
  rw[Nat.mul_comm,Nat.mul_add_mod,Nat.mod_eq_of_lt hl]
 rw[hq,hm];have h0:(2:Nat)^[a,b,c,d,e,f,g,i].length=256:=by simp
 rw[h0]at h1;refine⟨h1,r,?_,rfl,rfl⟩;rw[unpack_app,unpack_one,byte_all,List.append_assoc];exact hr
theorem EncI.whole {L:List Bool} {o:List UInt8} {x:Nat} (h:EncI L o x 0):o=pack L.length L:=by
 obtain⟨r,hr,_,hn⟩:=h;have:r=[]:=List.eq_nil_of_length_eq_zero hn.symm;subst this;exact pack_is (p:=0) (by rw[<-hr];simp) (by omega)
theorem val_ones:∀p,val 0 (List.replicate p true)=2^p-1
 |0=>rfl
 |p+1=>by
  rw[List.replicate_succ,val,val_mul,List.length_replicate,val_ones p,Nat.pow_succ];have hp:0<2^p:=Nat.pow_pos (by omega);show(2*0+1)*2^p+(2^p-1)=_;omega
theorem EncI.last {L:List Bool} {o:List UInt8} {x n:Nat} (h:EncI L o x n) (h8:n<8) (h0:0<n):x*2^(8-n)+(2^(8-n)-1)<256/\o++[UInt8.ofNat (x*2^(8-n)+(2^(8-n)-1))]=pack L.length L:=by
 obtain⟨r,hr,rfl,rfl⟩:=h;have e:=val_split r (List.replicate (8-r.length) true);rw[val_ones,List.length_replicate]at e;have hl:(r++List.replicate (8-r.length) true).length=8:=by simp;omega
 have h1:=val_lt (r++List.replicate (8-r.length) true);rw[hl]at h1;rw[<-e];refine⟨h1,pack_is (p:=8-r.length) ?_ (by omega)⟩;rw[unpack_app,unpack_one,<-hr,List.append_assoc]
 congr 1
 generalize r++List.replicate (8-r.length) true=q at hl ⊢;obtain⟨a,b,c,d,e,f,g,i,r2,e2⟩:=take8 (Nat.le_of_eq hl.symm);subst e2;have h2:r2=[]:=by
  simp only[List.length_cons]at hl;exact List.eq_nil_of_length_eq_zero (by omega)
 subst h2;exact byte_all a b c d e f g i
theorem cd_lt_list:(List.range 257).all (λs=>Nat.blt (cd s) (2^sz s))=true:=by kernel_rfl
theorem cd_lt {s:Nat} (hs:s<257):cd s<2^sz s:=by
 have:=List.all_eq_true.1 cd_lt_list s (List.mem_range.2 hs);exact Nat.le_of_ble_eq_true this
theorem encB_app:∀a b:List Nat,encB (a++b)=encB a++encB b
 |[],b=>rfl
 |s::a,b=>by rw[List.cons_append,encB,encB,encB_app a b,List.append_assoc]
end Go.Own.Hf
end

section
namespace Go.Own.Hf
open Go
theorem or_lt (c b n:Nat) (hb:b<2^n):c*2^n|||b=c*2^n+b:=by
 have:=Nat.shiftLeft_add_eq_or_of_lt hb c;rw[Nat.shiftLeft_eq]at this;exact this.symm
theorem or_u64 (c b n:Nat) (hb:b<2^n) (hc:c*2^n+b<18446744073709551616):bits .or .u64 ((c*2^n:Nat):Int) (b:Int)=((c*2^n+b:Nat):Int):=by
 show IntKind.u64.wrap ((BitVec.ofInt 64 ((c*2^n:Nat):Int)|||BitVec.ofInt 64 (b:Int)).toNat:Int)=_;have h1:(BitVec.ofInt 64 ((c*2^n:Nat):Int)).toNat=c*2^n:=by rw[BitVec.ofInt_natCast,BitVec.toNat_ofNat];exact Nat.mod_eq_of_lt (by omega)
 have h2:(BitVec.ofInt 64 (b:Int)).toNat=b:=by rw[BitVec.ofInt_natCast,BitVec.toNat_ofNat];exact Nat.mod_eq_of_lt (by omega)
 have h3:=or_lt c b n hb;rw[BitVec.toNat_or,h1,h2,h3];generalize c*2^n+b=z at*
 simp[IntKind.wrap,IntKind.bits,IntKind.signed];omega
theorem and_u64 (c n:Nat) (hn:n<64) (hc:c<18446744073709551616):bits .and .u64 (c:Int) ((2^n-1:Nat):Int)=((c % 2^n:Nat):Int):=by
 have hp:2^n<=2^63:=Nat.pow_le_pow_right (by omega) (by omega);have h0:0<2^n:=Nat.pow_pos (by omega);have e63:(2:Nat)^63=9223372036854775808:=rfl;show IntKind.u64.wrap ((BitVec.ofInt 64 (c:Int)&&& BitVec.ofInt 64 ((2^n-1:Nat):Int)).toNat:Int)=_;have h1:(BitVec.ofInt 64 (c:Int)).toNat=c:=by rw[BitVec.ofInt_natCast,BitVec.toNat_ofNat];exact Nat.mod_eq_of_lt (by omega)
 have h2:(BitVec.ofInt 64 ((2^n-1:Nat):Int)).toNat=2^n-1:=by rw[BitVec.ofInt_natCast,BitVec.toNat_ofNat];exact Nat.mod_eq_of_lt (by omega)
 have h3:c&&& (2^n-1)=c % 2^n:=Nat.and_two_pow_sub_one_eq_mod c n;rw[BitVec.toNat_and,h1,h2,h3];have h4:c % 2^n<2^n:=Nat.mod_lt _ h0;generalize c % 2^n=z at*
 simp[IntKind.wrap,IntKind.bits,IntKind.signed];omega
theorem or_u8 (c b n:Nat) (hb:b<2^n) (hc:c*2^n+b<256):bits .or .u8 ((c*2^n:Nat):Int) (b:Int)=((c*2^n+b:Nat):Int):=by
 show IntKind.u8.wrap ((BitVec.ofInt 8 ((c*2^n:Nat):Int)|||BitVec.ofInt 8 (b:Int)).toNat:Int)=_;have h1:(BitVec.ofInt 8 ((c*2^n:Nat):Int)).toNat=c*2^n:=by rw[BitVec.ofInt_natCast,BitVec.toNat_ofNat];exact Nat.mod_eq_of_lt (by omega)
 have h2:(BitVec.ofInt 8 (b:Int)).toNat=b:=by rw[BitVec.ofInt_natCast,BitVec.toNat_ofNat];exact Nat.mod_eq_of_lt (by omega)
 have h3:=or_lt c b n hb;rw[BitVec.toNat_or,h1,h2,h3];generalize c*2^n+b=z at*
 simp[IntKind.wrap,IntKind.bits,IntKind.signed];omega
theorem shl_w (x z:Nat) (hz:z<=63) (h:x*2^z<18446744073709551616):IntKind.u64.wrap ((x:Int)*2^min z 64)=((x*2^z:Nat):Int):=by
 have hm:min z 64=z:=by omega
 have hc:(x:Int)*2^z=((x*2^z:Nat):Int):=by rw[Int.natCast_mul];congr 1
 rw[hm,hc];generalize x*2^z=y at*
 simp[IntKind.wrap,IntKind.bits,IntKind.signed];omega
theorem one_w (z:Nat) (hz:z<=63):IntKind.u64.wrap (2^min z 64)=((2^z:Nat):Int):=by
 have h1:2^z<=2^63:=Nat.pow_le_pow_right (by omega) hz;have e1:(2:Nat)^63=9223372036854775808:=rfl;have h:=shl_w 1 z hz (by omega);rw[Nat.one_mul]at h;rw[<-h]
 congr 1
 rw[Int.natCast_one,Int.one_mul]
theorem shr_w (x z:Nat) (hz:z<=63):(x:Int)/2^min z 64=((x/2^z:Nat):Int):=by
 have hm:min z 64=z:=by omega
 rw[hm,Int.natCast_ediv]
 congr 1
theorem EncI.len {L:List Bool} {o:List UInt8} {x n:Nat} (h:EncI L o x n):8*o.length+n=L.length:=by
 obtain⟨r,hr,_,rfl⟩:=h;rw[<-hr,List.length_append,unpack_len]
end Go.Own.Hf
end

section
namespace Go.Own.Hk
open Go.Own
theorem putMore_len:∀k n,(putMore k n).length<=k+1
 |0,n=>by simp[putMore]
 |k+1,n=>by
  unfold putMore
  split
  · simp
  · have:=putMore_len k (n/128)
    rw[List.length_cons];omega
theorem putI_len (f b n:Nat):(putI f b n).length<=6:=by
 unfold putI
 split
 · simp
 · have:=putMore_len 4 (n-(2^b-1))
   rw[List.length_cons];omega
theorem putT_len (s:List UInt8):(putT s).length<=6+s.length:=by
 unfold putT
 split
 · rw[List.length_append,encH_len]
   have:=putI_len 128 7 (sizeH s);omega
 · rw[List.length_append]
   have:=putI_len 0 7 s.length;omega
theorem litP_len (i:Nat) (h:Hd.HdrV):(litP i h).length<=12+h.name.size+h.value.size:=by
 have h1:=putT_len h.name.data.toList;have h2:=putT_len h.value.data.toList;have e1:h.name.data.toList.length=h.name.size:=by simp
 have e2:h.value.data.toList.length=h.value.size:=by simp
 unfold litP;rw[List.length_append]
 split
 · omega
 · simp only[List.length_nil];omega
theorem encOne_len (t:TM) (h:Hd.HdrV):(encOne t h).1.length<=hz h:=by
 have h1:=putI_len 128 7 (t.find h.name h.value).1;have h2:=putI_len 16 4 (t.find h.name h.value).1;have h3:=putI_len 0 4 (t.find h.name h.value).1;have h4:=putI_len 64 6 (t.find h.name h.value).1;have h5:=litP_len (t.find h.name h.value).1 h;unfold encOne hz;simp only
 split
 · simp only;omega
 · split
   · simp only[List.length_append];omega
   · split
     · simp only[List.length_append];omega
     · simp only[List.length_append];omega
theorem encP_len:∀(t:TM) (l:List Hd.HdrV),(encP t l).1.length<=hzs l
 |t,[]=>by simp[encP]
 |t,h::l=>by
  rw[encP,hzs_cons];have h1:=encOne_len t h;have h2:=encP_len (encOne t h).2 l;rw[List.length_append];omega
end Go.Own.Hk
end
