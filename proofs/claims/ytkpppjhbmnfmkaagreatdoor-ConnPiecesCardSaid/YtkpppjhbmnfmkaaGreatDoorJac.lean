/-
  
  
  
  
  
  
  
  
  
  
  
  
  
  
  
-/
import Derived.Test.YtkpppjhbmnfmkaaGreatDoorJaa
import Derived.Maps.OwnSet
import Derived.Maps.OwnOps
import Derived.Maps.RangeWalk
import Derived.Maps.StringElems
import Derived.Test.YtkpppjhbmnfmkaaGreatDoorJad
import Derived.Test.YtkpppjhbmnfmkaaGreatDoorJab
import Derived.Test.YtkpppjhbmnfmkaaGreatDoorProg
import Derived.Test.YtkpppjhbmnfmkaaGreatDoorJae
import Derived.Deep.CutBlock
import Derived.Scope
import Derived.WalkMore
import Derived.DeepKeys4
import Derived.Deep.RegionLaw
import Derived.Deep.DrawnRows
import Derived.ScopeJumps
import Derived.BigRegion
set_option linter.unusedSimpArgs false
set_option linter.unusedVariables false
section
namespace Go.Own.Im
open Go Go.RowKit Go.Own
def Rh (v:Value):Option (DataW Value×List MemPlace):=some (.held v,[])
def il (k:Int):Lit:=.int .i64 k
theorem keyLit (k:Int):WideAt.IsKeyLit (il k):=by simp[il,WideAt.IsKeyLit]
theorem il_ne {a b:Int} (h:a≠b):il a≠il b:=λe=>h (by injection e)
def HM (P:Program) (kt:TypeId) (w:World) (b n:Nat) (f:Int->Option Value):Prop:=
 ∃D,w.ownsMap P kt Rh b n D/\Maps.IsMap D/\∀k,Maps.has D (il k)=(f k).isSome/\∀z v,f k=some v->D.atKey (il k) z= .held v
section
variable {P:Program} {kt:TypeId} {w w':World} {b n:Nat} {f:Int->Option Value}
theorem HM.lt (h:HM P kt w b n f):b<w.heap.size:=by
 obtain⟨D,h1,_⟩:=h;exact h1.lt
theorem HM.kept {row:Option Nat} (h:HM P kt w b n f) (hg:w.grownBy w' row) (hne:some b≠row):HM P kt w' b n f:=by
 obtain⟨D,h1,h2⟩:=h;exact⟨D,h1.kept hg hne,h2⟩
theorem HM.alloc (h:HM P kt w b n f) (o:Obj):HM P kt (w.alloc o) b n f:=h.kept (World.grownBy_alloc w o none) (by simp)
theorem HM.same (h:HM P kt w b n f) {g:Int->Option Value} (hg:∀k,f k=g k):HM P kt w b n g:=by
 have:f=g:=funext hg;exact this▸h
theorem HM.made (P:Program) (kt:TypeId) (w:World):HM P kt (w.alloc (.map #[] 0)) w.heap.size 0 λ_=>none:=
 ⟨.map [],World.ownsMap_made w P kt Rh,Maps.isMap_empty,λ_=>⟨rfl,λ_ _ h=>by cases h⟩⟩
variable {t e:TypeId} (ht:P.underlying t=some (.map kt e)) (hk:P.underlying kt=some (.int .i64))
include ht hk
theorem HM.look (h:HM P kt w b n f) {z:Value} (hz:(zeroValue e).run P w= .ok z w) {k:Int} (hw:(Lit.int .i64 k).wf=true):
 (Instr.lookup t (.map (some b)) (.int .i64 k) false).run P w= .ok ((f k).getD z) w:=by
 obtain⟨D,h1,h2,h3⟩:=h;obtain⟨v,ps,h0,hv⟩:=h1.lookup (Maps.int_keyed hk) ht hz (zd:=.held z) (zp:=[]) rfl (Maps.keyOf_int_mk hk hw);rw[h0];cases hf:f k with
 |none=>
  have hn:=(h3 k).1;rw[hf]at hn;change Rh v=some (D.atKey (il k) _,ps)at hv;rw[Maps.atKey_of_not_has hn]at hv;simp only[Rh,Option.some.injEq,Prod.mk.injEq,DataW.held.injEq]at hv;rw[hv.1];rfl
 |some u=>
  change Rh v=some (D.atKey (il k) _,ps)at hv;rw[(h3 k).2 _ u hf]at hv;simp only[Rh,Option.some.injEq,Prod.mk.injEq,DataW.held.injEq]at hv;rw[hv.1];rfl
theorem HM.look_ok (h:HM P kt w b n f) {z:Value} (hz:(zeroValue e).run P w= .ok z w) {k:Int} (hw:(Lit.int .i64 k).wf=true):
 (Instr.lookup t (.map (some b)) (.int .i64 k) true).run P w= .ok (.tuple #[(f k).getD z,.bool (f k).isSome]) w:=by
 obtain⟨D,h1,h2,h3⟩:=h;obtain⟨v,ps,h0,hv⟩:=h1.look_ok (Maps.int_keyed hk) ht hz (zd:=.held z) (zp:=[]) rfl (Maps.keyOf_int_mk hk hw);rw[h0];change _=Result.ok (Value.tuple #[_,.bool (f k).isSome]) w;rw[<-(h3 k).1];refine congrArg (λx=>Result.ok (Value.tuple #[x,.bool (Maps.has D (il k))]) w) ?_;cases hf:f k with
 |none=>
  have hn:=(h3 k).1;rw[hf]at hn;change Rh v=some (D.atKey (il k) _,ps)at hv;rw[Maps.atKey_of_not_has hn]at hv;simp only[Rh,Option.some.injEq,Prod.mk.injEq,DataW.held.injEq]at hv;rw[hv.1];rfl
 |some u=>
  change Rh v=some (D.atKey (il k) _,ps)at hv;rw[(h3 k).2 _ u hf]at hv;simp only[Rh,Option.some.injEq,Prod.mk.injEq,DataW.held.injEq]at hv;rw[hv.1];rfl
theorem HM.put (h:HM P kt w b n f) (hn:n<maxLen) {k:Int} (hw:(Lit.int .i64 k).wf=true) (v:Value):
 ∃w',(Instr.mapUpdate t (.map (some b)) (.int .i64 k) v).run P w= .ok () w'/\HM P kt w' b (n+1) (λx=>if x=k then some v else f x)/\w.grownBy w' (some b):=by
 obtain⟨D,h1,h2,h3⟩:=h;obtain⟨w',h0,r1,r2⟩:=h1.update (Maps.int_keyed hk) ht hn (Maps.keyOf_int_mk hk hw) (val:=v) (d:=.held v) (ps:=[]) rfl;refine⟨w',h0,⟨_,r1,h2.put _ _,λx=>?_⟩,r2⟩;by_cases e:x=k
 · subst e
   simp only[if_pos];exact⟨Maps.has_put_same h2 (keyLit _) _,λz u hu=>by injection hu with hu;subst hu;exact Maps.atKey_put_same h2 (keyLit _) _ _⟩
 · simp only[if_neg e]
   refine⟨(Maps.has_put_other (il_ne e) _).trans (h3 x).1,λz u hu=>?_⟩;exact(Maps.atKey_put_other (il_ne e) _ _).trans ((h3 x).2 z u hu)
end
section
variable {P:Program} {ops:Array Oper} {rest:List Oper} {o:Oper} {a:Act} {Q:Exit->Act->World->Prop}
theorem wpList_put (w:World) (hg:o.guard=none) (m x v:Operand) (t:TypeId) (h0:o.op=Op.insert t m x v\/o.op=Op.mapUpdate t m x v) {kt e:TypeId} (ht:P.underlying t=some (.map kt e)) (hk:P.underlying kt=some (.int .i64))
 (b n:Nat) (f:Int->Option Value) (hm:a.eval m= .map (some b)) (h:HM P kt w b n f) (hn:n<maxLen) (k:Int) (hw:(Lit.int .i64 k).wf=true) (hx:a.eval x= .int .i64 k) (u:Value) (hv:a.eval v=u)
 (hK:∀w',HM P kt w' b (n+1) (λx=>if x=k then some u else f x)->w.grownBy w' (some b)->wpList P ops Q rest (a.put o.dst undef) w'):wpList P ops Q (o::rest) a w:=by
 refine wpList_plain hg λK' h2=>?_;obtain⟨w',h1,r1,r2⟩:=h.put ht hk hn hw u;unfold Oper.wp;rcases h0 with h0|h0<;>simp[execOp,h0,hm,hx,hv,h1,Result.andThen]<;>exact h2 _ _ (hK w' r1 r2)
end
end Go.Own.Im
end

section
namespace Go.Own.Hk
open Go.Own
def intMore:Nat->Nat->Nat->List UInt8->Option (Nat×List UInt8)
 |0,_,_,_=>none
 |_+1,_,_,[]=>none
 |k+1,sh,n,b::l=>
  if b.toNat<128 then(if n+b.toNat*2^sh<=2147483647 then some (n+b.toNat*2^sh,l)else none)
  else intMore k (sh+7) (n+(b.toNat-128)*2^sh) l
def intP (bits:Nat):List UInt8->Option (Nat×List UInt8)
 |[]=>none
 |b::l=>if b.toNat % 2^bits<2^bits-1 then some (b.toNat % 2^bits,l)else intMore 5 0 (b.toNat % 2^bits) l
theorem toNat_of (n:Nat) (h:n<256):(UInt8.ofNat n).toNat=n:=by
 rw[UInt8.toNat_ofNat'];exact Nat.mod_eq_of_lt h
def decH (l:List UInt8):Option (List UInt8):=(Hf.dec 0 0 (Hf.unpack l)).map λs=>s.map UInt8.ofNat
def textP (l:List UInt8):Option (List UInt8×List UInt8):=
 match intP 7 l with
 |none=>none
 |some (n,r)=>
  if n>16384 then none else
  if n>r.length then none else
  if(l.headD 0).toNat<128 then some (r.take n,r.drop n)else
  match decH (r.take n)with
  |none=>none
  |some s=>some (s,r.drop n)
def statL:List (List UInt8×List UInt8):=[([58,97,117,116,104,111,114,105,116,121],[]),
 ([58,109,101,116,104,111,100],[71,69,84]),
 ([58,109,101,116,104,111,100],[80,79,83,84]),
 ([58,112,97,116,104],[47]),
 ([58,112,97,116,104],[47,105,110,100,101,120,46,104,116,109,108]),
 ([58,115,99,104,101,109,101],[104,116,116,112]),
 ([58,115,99,104,101,109,101],[104,116,116,112,115]),
 ([58,115,116,97,116,117,115],[50,48,48]),
 ([58,115,116,97,116,117,115],[50,48,52]),
 ([58,115,116,97,116,117,115],[50,48,54]),
 ([58,115,116,97,116,117,115],[51,48,52]),
 ([58,115,116,97,116,117,115],[52,48,48]),
 ([58,115,116,97,116,117,115],[52,48,52]),
 ([58,115,116,97,116,117,115],[53,48,48]),
 ([97,99,99,101,112,116,45,99,104,97,114,115,101,116],[]),
 ([97,99,99,101,112,116,45,101,110,99,111,100,105,110,103],[103,122,105,112,44,32,100,101,102,108,97,116,101]),
 ([97,99,99,101,112,116,45,108,97,110,103,117,97,103,101],[]),
 ([97,99,99,101,112,116,45,114,97,110,103,101,115],[]),
 ([97,99,99,101,112,116],[]),
 ([97,99,99,101,115,115,45,99,111,110,116,114,111,108,45,97,108,108,111,119,45,111,114,105,103,105,110],[]),
 ([97,103,101],[]),
 ([97,108,108,111,119],[]),
 ([97,117,116,104,111,114,105,122,97,116,105,111,110],[]),
 ([99,97,99,104,101,45,99,111,110,116,114,111,108],[]),
 ([99,111,110,116,101,110,116,45,100,105,115,112,111,115,105,116,105,111,110],[]),
 ([99,111,110,116,101,110,116,45,101,110,99,111,100,105,110,103],[]),
 ([99,111,110,116,101,110,116,45,108,97,110,103,117,97,103,101],[]),
 ([99,111,110,116,101,110,116,45,108,101,110,103,116,104],[]),
 ([99,111,110,116,101,110,116,45,108,111,99,97,116,105,111,110],[]),
 ([99,111,110,116,101,110,116,45,114,97,110,103,101],[]),
 ([99,111,110,116,101,110,116,45,116,121,112,101],[]),
 ([99,111,111,107,105,101],[]),
 ([100,97,116,101],[]),
 ([101,116,97,103],[]),
 ([101,120,112,101,99,116],[]),
 ([101,120,112,105,114,101,115],[]),
 ([102,114,111,109],[]),
 ([104,111,115,116],[]),
 ([105,102,45,109,97,116,99,104],[]),
 ([105,102,45,109,111,100,105,102,105,101,100,45,115,105,110,99,101],[]),
 ([105,102,45,110,111,110,101,45,109,97,116,99,104],[]),
 ([105,102,45,114,97,110,103,101],[]),
 ([105,102,45,117,110,109,111,100,105,102,105,101,100,45,115,105,110,99,101],[]),
 ([108,97,115,116,45,109,111,100,105,102,105,101,100],[]),
 ([108,105,110,107],[]),
 ([108,111,99,97,116,105,111,110],[]),
 ([109,97,120,45,102,111,114,119,97,114,100,115],[]),
 ([112,114,111,120,121,45,97,117,116,104,101,110,116,105,99,97,116,101],[]),
 ([112,114,111,120,121,45,97,117,116,104,111,114,105,122,97,116,105,111,110],[]),
 ([114,97,110,103,101],[]),
 ([114,101,102,101,114,101,114],[]),
 ([114,101,102,114,101,115,104],[]),
 ([114,101,116,114,121,45,97,102,116,101,114],[]),
 ([115,101,114,118,101,114],[]),
 ([115,101,116,45,99,111,111,107,105,101],[]),
 ([115,116,114,105,99,116,45,116,114,97,110,115,112,111,114,116,45,115,101,99,117,114,105,116,121],[]),
 ([116,114,97,110,115,102,101,114,45,101,110,99,111,100,105,110,103],[]),
 ([117,115,101,114,45,97,103,101,110,116],[]),
 ([118,97,114,121],[]),
 ([118,105,97],[]),
 ([119,119,119,45,97,117,116,104,101,110,116,105,99,97,116,101],[])]
def hv (n v:List UInt8):Hd.HdrV:=⟨⟨n.toArray⟩,⟨v.toArray⟩,false⟩
def statH:List Hd.HdrV:=statL.map λp=>hv p.1 p.2
def hz (h:Hd.HdrV):Nat:=h.name.size+h.value.size+32
def hzs (l:List Hd.HdrV):Nat:=(l.map hz).sum
structure TM where
 E:List Hd.HdrV:=[]
 most:Nat:=4096
def shrink (m:Nat):List Hd.HdrV->List Hd.HdrV
 |[]=>[]
 |h::E=>if m<hzs (h::E)then shrink m E else h::E
def off (h:Hd.HdrV):Hd.HdrV:={h with never:=false}
def TM.add (t:TM) (h:Hd.HdrV):TM:=if t.most<hz h then{t with E:=[]}else{t with E:=shrink (t.most-hz h) t.E++[off h]}
def TM.resize (t:TM) (n:Nat):TM:={E:=shrink n t.E,most:=n}
def TM.all (t:TM):List Hd.HdrV:=statH++t.E.reverse
def TM.get (t:TM) (i:Nat):Option Hd.HdrV:=if i=0 then none else t.all[i-1]?
structure TM.Ok (t:TM):Prop where
 plain:∀h∈t.E,h.never=false
 size:hzs t.E<=t.most
 most:t.most<=4096
theorem shrink_le:∀(m:Nat) (E:List Hd.HdrV),hzs (shrink m E)<=m
 |m,[]=>by simp[shrink,hzs]
 |m,h::E=>by
  unfold shrink
  split
  · exact shrink_le m E
  · omega
def namedP (bits:Nat) (t:TM) (l:List UInt8):Option (Hd.HdrV×List UInt8):=
 match intP bits l with
 |none=>none
 |some (i,r)=>
  if i=0 then
   match textP r with
   |none=>none
   |some (n,r1)=>
    match textP r1 with
    |none=>none
    |some (v,r2)=>some (hv n v,r2)
  else
   match t.get i with
   |none=>none
   |some h=>
    match textP r with
    |none=>none
    |some (v,r2)=>some ({hv [] v with name:=h.name},r2)
def stepP (t:TM) (out:Bool) (l:List UInt8):Option (Option Hd.HdrV×List UInt8×TM):=
 if 128<=(l.headD 0).toNat then
  match intP 7 l with
  |none=>none
  |some (i,r)=>
   match t.get i with
   |none=>none
   |some h=>some (some h,r,t)
 else if 64<=(l.headD 0).toNat then
  match namedP 6 t l with
  |none=>none
  |some (h,r)=>some (some h,r,t.add h)
 else if 32<=(l.headD 0).toNat then
  match intP 5 l with
  |none=>none
  |some (n,r)=>if out=true\/n>4096 then none else some (none,r,t.resize n)
 else
  match namedP 4 t l with
  |none=>none
  |some (h,r)=>some (some {h with never:=decide (16<=(l.headD 0).toNat)},r,t)
def blockP:Nat->TM->Nat->List Hd.HdrV->List UInt8->Option (List Hd.HdrV×TM)
 |_,t,_,out,[]=>some (out,t)
 |0,_,_,_,_::_=>none
 |k+1,t,sz,out,b::l=>
  match stepP t (!out.isEmpty) (b::l)with
  |none=>none
  |some (none,r,t')=>blockP k t' sz out r
  |some (some h,r,t')=>if sz+hz h>16384 then none else blockP k t' (sz+hz h) (out++[h]) r
def decP (t:TM) (l:List UInt8):Option (List Hd.HdrV×TM):=blockP l.length t 0 [] l
end Go.Own.Hk
end

section
namespace Go.Own.Cx
open Go Go.RowKit Go.Own
inductive Tg where
 |no|cn|fed|out|ev|evd|inw|outw|map|lst|blk|enc|dec
 |st (id k:Nat)
 deriving DecidableEq
structure EvV where
 kind:Nat:=0
 stream:Nat:=0
 code:Nat:=0
 last:Nat:=0
 fin:Bool:=false
 la:Option Addr:=none
 lc:Nat:=0
 ba:Option Addr:=none
 bc:Nat:=0
 l:List Hd.HdrV:=[]
 by_:List UInt8:=[]
def evC (e:EvV):Array Value:=#[.int .i64 (e.kind:Nat),.int .i64 (e.stream:Nat),.int .i64 (e.code:Nat),.int .i64 (e.last:Nat),.bool e.fin,.slice e.la e.l.length e.lc,.slice e.ba e.by_.length e.bc]
structure Sv where
 id:Nat
 own:Nat:=0
 other:Nat:=0
 inw:Int
 outw:Int
 waits:List UInt8:=[]
 trails:Bool:=false
 held:Nat:=0
structure HpM where
 dt:Hk.TM:={}
 dgone:Bool:=false
 et:Hk.TM:={}
 asked:Bool:=false
 least:Nat:=0
structure Cv where
 side:Nat
 cw:Int
 cs:Int
 fed:List UInt8:=[]
 greeted:Bool:=false
 preface:Nat:=0
 out:List UInt8:=[]
 evs:List EvV:=[]
 inw:Int:=65535
 outw:Int:=65535
 window:Int:=65535
 others:Int:=65535
 limit:Int:=2147483647
 acked:Bool:=false
 last:Nat:=0
 strs:List Sv:=[]
 list:Option (Nat×Bool×List UInt8):=none
 bye:Bool:=false
 gone:Bool:=false
 dead:Bool:=false
 code:Nat:=0
 hp:HpM:={}
structure SLay where
 sb:Nat:=0
 ib:Nat:=0
 ob:Nat:=0
 pb:Nat:=0
 rb:Nat:=0
 waits:Value:=.slice none 0 0
 trl:Value:=.slice none 0 0
structure Lay where
 fed:Value:=.slice none 0 0
 out:Value:=.slice none 0 0
 ev:Value:=.slice none 0 0
 ib:Nat
 ob:Nat
 mb:Nat
 list:Value:=.pointer none
 enc:Nat
 dec:Nat
 s:Nat->SLay:=λ_=>{}
def cnC (M:Cv) (L:Lay):Array Value:=
 #[.int .i64 (M.side:Nat),.int .i64 M.cw,.int .i64 M.cs,L.fed,.bool M.greeted,.int .i64 (M.preface:Nat),L.out,L.ev,.pointer (some ⟨L.ib,0,none⟩),.pointer (some ⟨L.ob,0,none⟩),.int .i64 M.window,.int .i64 M.others,.int .i64 M.limit,.bool M.acked,.int .i64 (M.last:Nat),.map (some L.mb),L.list,.bool M.bye,.bool M.gone,.bool M.dead,.int .i64 (M.code:Nat),.pointer (some ⟨L.enc,0,none⟩),.pointer (some ⟨L.dec,0,none⟩)]
def stC (s:Sv) (L:SLay):Array Value:=
 #[.int .i64 (s.id:Nat),.int .i64 (s.own:Nat),.int .i64 (s.other:Nat),.pointer (some ⟨L.ib,0,none⟩),.pointer (some ⟨L.ob,0,none⟩),.pointer (some ⟨L.pb,0,none⟩),L.waits,.bool s.trails,L.trl,.int .i64 (s.held:Nat)]
end Go.Own.Cx
end

section
namespace Go.Own.Im
open Go Go.RowKit Go.Own
def SM (P:Program) (kt:TypeId) (w:World) (b:Nat) (ks:List Nat) (f:Nat->Value):Prop:=
 ∃D,w.ownsMap P kt Rh b ks.length D/\Maps.Tidy D/\Maps.size D=ks.length/\(∀k:Int,Maps.has D (il k)=ks.any λi:Nat=>decide ((i:Int)=k))/\∀i∈ks,∀z,D.atKey (il (i:Int)) z= .held (f i)
section
variable {P:Program} {kt:TypeId} {w w':World} {b:Nat} {ks:List Nat} {f:Nat->Value}
theorem own_tight {R:Value->Option (DataW Value×List MemPlace)} {n:Nat} {D:DataW Value} (h:w.ownsMap P kt R b n D):w.ownsMap P kt R b (Maps.size D) D:=by
 obtain⟨es,clock,hb,F,hs,rfl⟩:=h;exact⟨es,clock,hb,F,by simp[Maps.size,length_sorted],rfl⟩
theorem SM.lt (h:SM P kt w b ks f):b<w.heap.size:=by
 obtain⟨D,h1,_⟩:=h;exact h1.lt
theorem SM.keep (h:SM P kt w b ks f) (hb:w'.heap[b]?=w.heap[b]?):SM P kt w' b ks f:=by
 obtain⟨D,⟨es,clock,he,h1⟩,h2⟩:=h;exact⟨D,⟨es,clock,hb.trans he,h1⟩,h2⟩
theorem SM.same (h:SM P kt w b ks f) {g:Nat->Value} (hg:∀i∈ks,f i=g i):SM P kt w b ks g:=by
 obtain⟨D,h1,h2,h3,h4,h5⟩:=h;exact⟨D,h1,h2,h3,h4,λi hi z=>by rw[h5 i hi z,hg i hi]⟩
theorem SM.made (P:Program) (kt:TypeId) (w:World) (f:Nat->Value):SM P kt (w.alloc (.map #[] 0)) w.heap.size [] f:=
 ⟨.map [],World.ownsMap_made w P kt Rh,⟨[],rfl,List.Pairwise.nil⟩,rfl,λ_=>rfl,λ_ h=>by cases h⟩
def atI (ks:List Nat) (f:Nat->Value) (z:Value) (k:Int):Value:=match ks.find? (λi:Nat=>decide ((i:Int)=k))with|some i=>f i|none=>z
variable {t e:TypeId} (ht:P.underlying t=some (.map kt e)) (hk:P.underlying kt=some (.int .i64))
include ht hk
theorem SM.look (h:SM P kt w b ks f) {z:Value} (hz:(zeroValue e).run P w= .ok z w) {k:Int} (hw:(Lit.int .i64 k).wf=true):
 (Instr.lookup t (.map (some b)) (.int .i64 k) false).run P w= .ok (atI ks f z k) w:=by
 obtain⟨D,h1,h2,h3,h4,h5⟩:=h;obtain⟨v,ps,h0,hv⟩:=h1.lookup (Maps.int_keyed hk) ht hz (zd:=.held z) (zp:=[]) rfl (Maps.keyOf_int_mk hk hw);rw[h0];unfold atI;change Rh v=some (D.atKey (il k) _,ps)at hv;cases hf:ks.find? (λi:Nat=>decide ((i:Int)=k))with
 |none=>
  have hn:Maps.has D (il k)=false:=by
   rw[h4 k,List.any_eq_false];intro i hi;have:=List.find?_eq_none.1 hf i hi
   simpa using this
  rw[Maps.atKey_of_not_has hn]at hv;simp only[Rh,Option.some.injEq,Prod.mk.injEq,DataW.held.injEq]at hv;rw[hv.1]
 |some i=>
  have hi:=List.mem_of_find?_eq_some hf;have h6:(i:Int)=k:=by simpa using List.find?_some hf
  subst h6;rw[h5 i hi]at hv;simp only[Rh,Option.some.injEq,Prod.mk.injEq,DataW.held.injEq]at hv;rw[hv.1]
omit hk in
theorem SM.len (h:SM P kt w b ks f) (ty:TypeId):(Builtin.len_ #[t] ty #[.map (some b)]).run P w= .ok (.int .i64 (ks.length:Nat)) w:=by
 obtain⟨D,h1,h2,h3,_⟩:=h;rw[h1.len ht ty,h3]
theorem SM.put (h:SM P kt w b ks f) (hn:ks.length<maxLen) {k:Nat} (hw:(Lit.int .i64 (k:Int)).wf=true) (h0:k∉ks) (v:Value):
 ∃w',(Instr.mapUpdate t (.map (some b)) (.int .i64 (k:Int)) v).run P w= .ok () w'/\SM P kt w' b (ks++[k]) (λi=>if i=k then v else f i)/\w.grownBy w' (some b)/\w'.heap.size=w.heap.size:=by
 obtain⟨D,h1,h2,h3,h4,h5⟩:=h;have K:=Maps.int_keyed hk;obtain⟨w',h6,r1,r2⟩:=h1.store K ht hn (Maps.keyOf_int_mk hk hw) (val:=v) (d:=.held v) (ps:=[]) rfl;have h7:Maps.has D (il (k:Int))=false:=by
  rw[h4,List.any_eq_false];intro i hi;have:i≠k:=λe=>h0 (e▸hi);simp;omega
 have hsz:Maps.size (D.put (il (k:Int)) (.held v))=ks.length+1:=by
  rw[Maps.size_put h2,h7];simp[h3]
 refine⟨w',h6,⟨D.put (il (k:Int)) (.held v),?_,r1.tidy K,by rw[hsz];simp,λx=>?_,λi hi z=>?_⟩,?_,?_⟩
 · have:=own_tight r1
   rw[show(Maps.size (D.put (.int .i64 (k:Int)) (.held v)))=(ks++[k]).length by rw[show(Lit.int .i64 (k:Int))=il k from rfl,hsz];simp]at this;exact this
 · by_cases e:x=(k:Int)
   · subst e
     rw[Maps.has_put_same h2.isMap (keyLit _)];simp
   · rw[Maps.has_put_other (il_ne e),h4 x,List.any_append]
     have:¬(k:Int)=x:=λh=>e h.symm;simp[this]
 · by_cases e:i=k
   · subst e
     rw[Maps.atKey_put_same h2.isMap (keyLit _)];simp
   · rw[Maps.atKey_put_other (il_ne (by omega))]
     show _=DataW.held (if i=k then v else f i);rw[if_neg e];rcases List.mem_append.1 hi with hi|hi
     · exact h5 i hi z
     · exact absurd (by simpa using hi) e
 · obtain⟨es,clock,es',clock',hb,rfl⟩:=r2
   exact⟨rfl,rfl,rfl,by simp[ChangeMaps.setBlock],λi hi hne=>ChangeMaps.heap_setBlock_other hb _ (λe=>hne (by rw[e]))⟩
 · obtain⟨es,clock,es',clock',hb,rfl⟩:=r2
   simp[ChangeMaps.setBlock]
theorem SM.drop (h:SM P kt w b ks f) {k:Nat} (hw:(Lit.int .i64 (k:Int)).wf=true) (h9:k∈ks) (hd:ks.Nodup) (ty:TypeId):
 ∃w',(Builtin.delete_ #[t,kt] ty #[.map (some b),.int .i64 (k:Int)]).run P w= .ok (.tuple #[]) w'/\SM P kt w' b (ks.filter λi=>i != k) f/\w.grownBy w' (some b)/\w'.heap.size=w.heap.size:=by
 obtain⟨D,h1,h2,h3,h4,h5⟩:=h;have K:=Maps.int_keyed hk;obtain⟨w',h0,r1,r2⟩:=h1.drop K ht (Maps.keyOf_int_mk hk hw) ty;have h7:Maps.has D (il (k:Int))=true:=by
  rw[h4,List.any_eq_true];exact⟨k,h9,by simp⟩
 have h8:∀l:List Nat,k∈l->l.Nodup->(l.filter λi=>i != k).length+1=l.length:=by
  intro l
  induction l with
  |nil=>intro h;cases h
  |cons x l ih=>
   intro hm hn;rw[List.nodup_cons]at hn;by_cases e:x=k
   · subst e
     have:l.filter (λi=>i != x)=l:=List.filter_eq_self.2 λa ha=>by
      have:a≠x:=λe=>hn.1 (e▸ha)
      simpa using this
     simp[this]
   · have he:k∈l:=by
      rcases List.mem_cons.1 hm with h|h
      · exact absurd h.symm e
      · exact h
     have:=ih he hn.2;simp[e];omega
 have hsz:Maps.size (D.del (il (k:Int)))=(ks.filter λi=>i != k).length:=by
  have:=Maps.size_del (k:=il (k:Int)) h2;rw[h7]at this;have h6:=h8 ks h9 hd;simp at this;omega
 refine⟨w',h0,⟨D.del (il (k:Int)),?_,r1.tidy K,hsz,λx=>?_,λi hi z=>?_⟩,?_,?_⟩
 · have:=own_tight r1
   rw[show Maps.size (D.del (.int .i64 (k:Int)))=(ks.filter λi=>i != k).length from hsz]at this;exact this
 · by_cases e:x=(k:Int)
   · subst e
     rw[Maps.has_del_same]
     symm
     rw[List.any_eq_false];intro i hi;have:=(List.mem_filter.1 hi).2;simp at this ⊢;omega
   · rw[Maps.has_del_other (il_ne e),h4 x,List.any_filter]
     congr 1
     funext i
     by_cases e2:i=k
     · have:¬(k:Int)=x:=λh=>e h.symm
       subst e2;simp[this]
     · simp[e2]
 · have hc:=List.mem_filter.1 hi
   have e:i≠k:=by simpa using hc.2
   rw[Maps.atKey_del_other (il_ne (by omega))];exact h5 i hc.1 z
 · obtain⟨es,clock,es',clock',hb,rfl⟩:=r2
   exact⟨rfl,rfl,rfl,by simp[ChangeMaps.setBlock],λi hi hne=>ChangeMaps.heap_setBlock_other hb _ (λe=>hne (by rw[e]))⟩
 · obtain⟨es,clock,es',clock',hb,rfl⟩:=r2
   simp[ChangeMaps.setBlock]
omit hk in
theorem SM.clear (h:SM P kt w b ks f) (ty:TypeId):
 ∃w',(Builtin.clear_ #[t] ty #[.map (some b)]).run P w= .ok (.tuple #[]) w'/\SM P kt w' b [] f/\w.grownBy w' (some b)/\w'.heap.size=w.heap.size:=by
 obtain⟨D,⟨es,clock,hb,F,hs,hD⟩,h2,h3,h4,h5⟩:=h;refine⟨ChangeMaps.setBlock w b (.map #[] clock),?_,⟨.map [],⟨#[],clock,ChangeMaps.heap_setBlock_same hb _,⟨by simp,MapKept.stamped_empty clock,by simp⟩,Nat.le_refl _,rfl⟩,⟨[],rfl,List.Pairwise.nil⟩,rfl,λ_=>rfl,λ_ h=>by cases h⟩,?_,by simp[ChangeMaps.setBlock]⟩
 · simp[Builtin.clear_,run_underlying ht,MapKept.run_getObj_map hb,MapKept.run_setObj_map _ hb,Result.andThen,ChangeMaps.setBlock]
 · exact⟨rfl,rfl,rfl,by simp[ChangeMaps.setBlock],λi hi hne=>ChangeMaps.heap_setBlock_other hb _ (λe=>hne (by rw[e]))⟩
end
end Go.Own.Im
end

section
namespace Go.Own.Cx
open Go Go.RowKit Go.Own Go.Own.Im
def hdrC (h:Hd.HdrV):Array Value:=#[.string h.name,.string h.value,.bool h.never]
def hsz (h:Hd.HdrV):Nat:=h.name.size+h.value.size+32
def hszs (l:List Hd.HdrV):Nat:=(l.map hsz).sum
structure Fr (w:World) (ow:Nat->Tg) (w':World) (ow':Nat->Tg):Prop where
 os:w'.os=w.os
 tape:w'.tape=w.tape
 output:w'.output=w.output
 size:w.heap.size<=w'.heap.size
 keep:∀g,g<w.heap.size->ow g= .no->w'.heap[g]?=w.heap[g]?
 no:∀g,g<w.heap.size->ow g= .no->ow' g= .no
section
variable {w w1 w2:World} {ow ow1 ow2:Nat->Tg}
theorem Fr.refl (w:World) (ow:Nat->Tg):Fr w ow w ow:=⟨rfl,rfl,rfl,Nat.le_refl _,λ_ _ _=>rfl,λ_ _ h=>h⟩
theorem Fr.trans (h:Fr w ow w1 ow1) (k:Fr w1 ow1 w2 ow2):Fr w ow w2 ow2:=
 ⟨k.os.trans h.os,k.tape.trans h.tape,k.output.trans h.output,Nat.le_trans h.size k.size,
   λg hg ho=>(k.keep g (Nat.lt_of_lt_of_le hg h.size) (h.no g hg ho)).trans (h.keep g hg ho),λg hg ho=>k.no g (Nat.lt_of_lt_of_le hg h.size) (h.no g hg ho)⟩
theorem Fr.below (h:Below w.heap.size w w1) (ow:Nat->Tg):Fr w ow w1 ow:=⟨h.os,h.tape,h.output,h.size,λg hg _=>h.block g hg,λ_ _ h=>h⟩
theorem Fr.grown {row:Option Nat} (h:w.grownBy w1 row) (hr:∀g,row=some g->ow g≠ .no):Fr w ow w1 ow:=
 ⟨h.os,h.tape,h.output,h.size,λg hg ho=>h.block g hg (λe=>hr g e.symm ho),λ_ _ h=>h⟩
theorem Fr.drew (h:Fr w ow w1 ow1):Fr w ow w1.drew ow1:=⟨h.os,h.tape,h.output,h.size,h.keep,h.no⟩
theorem Fr.blk {g:Nat} {t:TypeId} {cs:Array Value} (h:Fr w ow w1 ow1) (hb:Blk w g t cs) (ho:ow g= .no):Blk w1 g t cs:=(h.keep g hb.lt ho).trans hb
theorem Fr.rd {B n:Nat} {A:Option Addr} {l:List UInt8} (h:Fr w ow w1 ow1) (hr:Rd w B A n l) (hB:B<=w.heap.size) (ho:0<n->∀ad,A=some ad->ow ad.block= .no):Rd w1 B A n l:=
 ⟨hr.1,λhn=>by
   obtain⟨ad,e,hb,hc⟩:=hr.2 hn;refine⟨ad,e,hb,λj hj=>?_⟩;exact(World.cell?_of_block (a:=ad.add j) (by rw[add_block];exact h.keep ad.block (by omega) (ho hn ad e))).trans (hc j hj)⟩
end
theorem _root_.Go.Own.Oz.turn {w w':World} {own own':Nat->Prop} {v:Value} {l:List UInt8} (h:Oz w own v l) (hk:∀g,g<w.heap.size->own g->w'.heap[g]?=w.heap[g]?/\own' g) (hs:w.heap.size<=w'.heap.size):Oz w' own' v l:=by
 obtain⟨A,c,rfl,h1,h2,h3⟩:=h;refine⟨A,c,rfl,h1,h2,λhc=>?_⟩;obtain⟨g,off,e,ho,h0,h4,h5⟩:=h3 hc;have hh:=(hk g h0 ho).1;have e1:∀j,w'.cell? ⟨g,j,none⟩=w.cell? ⟨g,j,none⟩:=λj=>World.cell?_of_block (a:=⟨g,j,none⟩) hh;have e2:∀j,w'.frozen? ⟨g,j,none⟩=w.frozen? ⟨g,j,none⟩:=λj=>World.frozen?_of_block (a:=⟨g,j,none⟩) hh;exact⟨g,off,e,(hk g h0 ho).2,Nat.lt_of_lt_of_le h0 hs,λj hl hj=>by rw[e1,e2];exact h4 j hl hj,λj hj=>by rw[e1];exact h5 j hj⟩
theorem _root_.Go.Own.OzF.turn {w w':World} {own own':Nat->Prop} {v:Value} {l:List UInt8} (h:OzF w own v l) (hk:∀g,g<w.heap.size->own g->w'.heap[g]?=w.heap[g]?/\own' g) (hs:w.heap.size<=w'.heap.size):OzF w' own' v l:=by
 refine⟨h.1.turn hk hs,λhl A n c e=>?_⟩;obtain⟨A',c',e1,h1,_,h3⟩:=h.1;have e2:=e.symm.trans e1;injection e2 with e2 _ e3
 obtain⟨g,off,e4,ho,h0,_⟩:=h3 (by omega);rw[<-e2]at e4;injection e4 with e4
 have hu:=h.2 hl A n c e;rw[e4]at hu ⊢;exact hu.same (hk g h0 ho).1
def upd (ow:Nat->Tg) (g:Nat) (t:Tg):Nat->Tg:=λj=>if j=g then t else ow j
theorem upd_same (ow:Nat->Tg) (g:Nat) (t:Tg):upd ow g t g=t:=by simp[upd]
theorem upd_other (ow:Nat->Tg) {g j:Nat} (t:Tg) (h:j≠g):upd ow g t j=ow j:=by simp[upd,h]
end Go.Own.Cx
namespace Go.Proofs.YtkpppjhbmnfmkaaGreatDoor
open Go.RowKit Go.Own Go.Own.Im Go.Own.Cx
def TabS (w:World) (own:Nat->Prop) (g:Nat) (E:List Hd.HdrV) (most:Nat):Prop:=
 ∃(r old:Nat) (cs:Array Value),Blk w g 179 #[.slice (some ⟨r,0,none⟩) 128 128,.int .i64 (old:Nat),.int .i64 (E.length:Nat),.int .i64 (hszs E:Nat),.int .i64 (most:Nat)]/\Blk w r 63 cs/\own g/\own r/\cs.size=384/\old<128/\hszs E<=most/\most<=4096/\
  (∀k h,E[k]?=some h->cs[(old+k) % 128*3]?=some (.string h.name)/\cs[(old+k) % 128*3+1]?=some (.string h.value)/\cs[(old+k) % 128*3+2]?=some (.bool h.never))/\
  ∀j,j<128->∃h:Hd.HdrV,cs[j*3]?=some (.string h.name)/\cs[j*3+1]?=some (.string h.value)/\cs[j*3+2]?=some (.bool h.never)
def EncS (w:World) (own:Nat->Prop) (e:Nat) (H:HpM):Prop:=∃tb:Nat,Blk w e 135 #[.pointer (some ⟨tb,0,none⟩),.int .i64 (H.least:Nat),.bool H.asked]/\own e/\H.least<=4096/\TabS w own tb H.et.E H.et.most
def DecS (w:World) (own:Nat->Prop) (d:Nat) (H:HpM):Prop:=∃tb:Nat,Blk w d 137 #[.pointer (some ⟨tb,0,none⟩),.int .i64 4096,.bool H.dgone]/\own d/\TabS w own tb H.dt.E H.dt.most
structure SN (w:World) (ow:Nat->Tg) (co:Nat) (l:SLay) (s:Sv):Prop where
 blk:Blk w l.sb 122 (stC s l)
 tb:ow l.sb= .st s.id 0
 inw:Blk w l.ib 177 #[.int .i64 s.inw]
 ti:ow l.ib= .st s.id 1
 outw:Blk w l.ob 177 #[.int .i64 s.outw]
 tu:ow l.ob= .st s.id 2
 pair:Blk w l.pb 206 #[.slice (some ⟨l.rb,0,none⟩) 2 2]
 tp:ow l.pb= .st s.id 3
 row:Blk w l.rb 75 #[.pointer (some ⟨co,0,none⟩),.pointer (some ⟨l.ob,0,none⟩)]
 tr:ow l.rb= .st s.id 4
 waits:Oz w (λg=>ow g= .st s.id 5) l.waits s.waits
structure EvOk (w:World) (ow:Nat->Tg) (e:EvV):Prop where
 lst:e.l.length<=e.lc/\Cm.RS hdrC 3 w w.heap.size e.la e.l.length e.l/\(0<e.l.length->∀ad,e.la=some ad->ow ad.block= .evd)
 byt:e.by_.length<=e.bc/\Rd w w.heap.size e.ba e.by_.length e.by_/\(0<e.by_.length->∀ad,e.ba=some ad->ow ad.block= .evd/\UF w ad.block)
structure EvS (w:World) (ow:Nat->Tg) (v:Value) (l:List EvV):Prop where
 row:Cm.Ew evC 43 7 w 0 v l
 own:∀g,v.ownBlock=some g->ow g= .ev
 each:∀e∈l,EvOk w ow e
def LsS (w:World) (ow:Nat->Tg) (v:Value):Option (Nat×Bool×List UInt8)->Prop
 |none=>v= .pointer none
 |some p=>∃g bv,v= .pointer (some ⟨g,0,none⟩)/\ow g= .lst/\Blk w g 195 #[.int .i64 (p.1:Nat),.bool p.2.1,bv]/\Oz w (λj=>ow j= .blk) bv p.2.2
def sptr (L:Lay) (i:Nat):Value:=.pointer (some ⟨(L.s i).sb,0,none⟩)
structure CP (w:World) (ow:Nat->Tg) (fed out:List UInt8) (evs:List EvV) (inw outw:Int) (strs:List Sv) (list:Option (Nat×Bool×List UInt8)) (H:HpM) (L:Lay):Prop where
 fed:Oz w (λg=>ow g= .fed) L.fed fed
 out:OzF w (λg=>ow g= .out) L.out out
 ev:EvS w ow L.ev evs
 inw:Blk w L.ib 177 #[.int .i64 inw]
 ti:ow L.ib= .inw
 outw:Blk w L.ob 177 #[.int .i64 outw]
 tu:ow L.ob= .outw
 map:SM Tryz.prog 3 w L.mb (strs.map (·.id)) (sptr L)
 tm:ow L.mb= .map
 strs:∀s∈strs,SN w ow L.ob (L.s s.id) s
 lst:LsS w ow L.list list
 enc:EncS w (λg=>ow g= .enc) L.enc H
 dec:DecS w (λg=>ow g= .dec) L.dec H
structure CN (w:World) (ow:Nat->Tg) (b:Nat) (M:Cv) (L:Lay):Prop where
 blk:Blk w b 80 (cnC M L)
 tb:ow b= .cn
 p:CP w ow M.fed M.out M.evs M.inw M.outw M.strs M.list M.hp L
 new:∀g,w.heap.size<=g->ow g= .no
section
variable {w w':World} {ow ow':Nat->Tg}
theorem TabS.keep {own own':Nat->Prop} {g:Nat} {E:List Hd.HdrV} {m:Nat} (h:TabS w own g E m) (hk:∀g,own g->g<w.heap.size->w'.heap[g]?=w.heap[g]?) (ho:∀g,own g->g<w.heap.size->own' g):TabS w' own' g E m:=by
 obtain⟨r,old,cs,h1,h2,h3,h4,h5⟩:=h;exact⟨r,old,cs,(hk g h3 h1.lt).trans h1,(hk r h4 h2.lt).trans h2,ho g h3 h1.lt,ho r h4 h2.lt,h5⟩
theorem EncS.keep {own own':Nat->Prop} {g:Nat} {H:HpM} (h:EncS w own g H) (hk:∀g,own g->g<w.heap.size->w'.heap[g]?=w.heap[g]?) (ho:∀g,own g->g<w.heap.size->own' g):EncS w' own' g H:=by
 obtain⟨tb,h1,h2,h3,h4⟩:=h;exact⟨tb,(hk g h2 h1.lt).trans h1,ho g h2 h1.lt,h3,h4.keep hk ho⟩
theorem DecS.keep {own own':Nat->Prop} {g:Nat} {H:HpM} (h:DecS w own g H) (hk:∀g,own g->g<w.heap.size->w'.heap[g]?=w.heap[g]?) (ho:∀g,own g->g<w.heap.size->own' g):DecS w' own' g H:=by
 obtain⟨tb,h1,h2,h4⟩:=h;exact⟨tb,(hk g h2 h1.lt).trans h1,ho g h2 h1.lt,h4.keep hk ho⟩
theorem SN.keep {co:Nat} {l:SLay} {s:Sv} (h:SN w ow co l s) (hs:w.heap.size<=w'.heap.size) (hk:∀g k,ow g= .st s.id k->g<w.heap.size->w'.heap[g]?=w.heap[g]?/\ow' g= .st s.id k):SN w' ow' co l s:=
 ⟨(hk _ _ h.tb h.blk.lt).1.trans h.blk,(hk _ _ h.tb h.blk.lt).2,(hk _ _ h.ti h.inw.lt).1.trans h.inw,(hk _ _ h.ti h.inw.lt).2,(hk _ _ h.tu h.outw.lt).1.trans h.outw,(hk _ _ h.tu h.outw.lt).2,
   (hk _ _ h.tp h.pair.lt).1.trans h.pair,(hk _ _ h.tp h.pair.lt).2,(hk _ _ h.tr h.row.lt).1.trans h.row,(hk _ _ h.tr h.row.lt).2,
   h.waits.turn (λg hg ho=>hk g 5 ho hg) hs⟩
theorem EvOk.keep {e:EvV} (h:EvOk w ow e) (hs:w.heap.size<=w'.heap.size) (hk:∀g,ow g= .evd->g<w.heap.size->w'.heap[g]?=w.heap[g]?/\ow' g= .evd):EvOk w' ow' e:=by
 obtain⟨⟨h1,h2,h3⟩,⟨h8,h6,h5⟩⟩:=h;refine⟨⟨h1,?_,λhl ad ha=>?_⟩,⟨h8,?_,λhl ad ha=>?_⟩⟩
 · rcases Nat.eq_zero_or_pos e.l.length with h0|h0
   · exact⟨rfl,λj x hx=>by have:=(List.getElem?_eq_some_iff.1 hx).1;omega⟩
   · exact(h2.keep hs λad ha _ h7=>(hk _ (h3 h0 ad ha) h7).1).more hs
 · obtain⟨ad',h4,_,h7,_⟩:=h2.2 0 _ (List.getElem?_eq_getElem hl)
   rw[ha]at h4;injection h4 with h4;subst h4
   exact(hk _ (h3 hl ad ha) h7).2
 · refine⟨h6.1,λhn=>?_⟩
   obtain⟨ad,ha,hb,hc⟩:=h6.2 hn;exact⟨ad,ha,Nat.lt_of_lt_of_le hb hs,λj hj=>(World.cell?_of_block (a:=ad.add j) (by rw[add_block];exact(hk _ (h5 hn ad ha).1 hb).1)).trans (hc j hj)⟩
 · obtain⟨ad',h4,hb,_⟩:=h6.2 hl
   rw[ha]at h4;injection h4 with h4;subst h4
   exact⟨(hk _ (h5 hl ad ha).1 hb).2,(h5 hl ad ha).2.same (hk _ (h5 hl ad ha).1 hb).1⟩
theorem EvS.keep {v:Value} {l:List EvV} (h:EvS w ow v l) (hs:w.heap.size<=w'.heap.size) (hk:∀g,ow g= .ev->g<w.heap.size->w'.heap[g]?=w.heap[g]?/\ow' g= .ev) (h1:∀g,ow g= .evd->g<w.heap.size->w'.heap[g]?=w.heap[g]?/\ow' g= .evd):EvS w' ow' v l:=by
 refine⟨⟨h.row.1,?_⟩,λg e=>?_,λe he=>(h.each e he).keep hs h1⟩
 · rcases h.row.2 with h0|⟨g,cap,cur,rfl,hb,hg,r⟩
   · exact .inl h0
   · exact .inr ⟨g,cap,cur,rfl,hb,(hk g (h.own g rfl) (Array.getElem?_eq_some_iff.1 hg).1).1.trans hg,r⟩
 · exact(hk g (h.own g e) (h.row.lt g e).2).2
theorem LsS.keep {v:Value}:∀{o:Option (Nat×Bool×List UInt8)},LsS w ow v o->w.heap.size<=w'.heap.size->(∀g,(ow g= .lst\/ow g= .blk)->g<w.heap.size->w'.heap[g]?=w.heap[g]?/\ow' g=ow g)->LsS w' ow' v o
 |none,h,_,_=>h
 |some _,⟨g,bv,e,h1,h2,h3⟩,hs,hk=>⟨g,bv,e,(hk g (.inl h1) h2.lt).2.trans h1,(hk g (.inl h1) h2.lt).1.trans h2,h3.turn (λj hj ho=>⟨(hk j (.inr ho) hj).1,(hk j (.inr ho) hj).2.trans ho⟩) hs⟩
theorem CP.keep {fed out:List UInt8} {evs:List EvV} {inw outw:Int} {strs:List Sv} {list:Option (Nat×Bool×List UInt8)} {H:HpM} {L:Lay} (h:CP w ow fed out evs inw outw strs list H L) (hs:w.heap.size<=w'.heap.size)
 (hk:∀g,ow g≠ .no->ow g≠ .cn->g<w.heap.size->w'.heap[g]?=w.heap[g]?/\ow' g=ow g):CP w' ow' fed out evs inw outw strs list H L:=by
 have k:∀(t:Tg),t≠ .no->t≠ .cn->∀g,ow g=t->g<w.heap.size->w'.heap[g]?=w.heap[g]?/\ow' g=t:=λt h1 h2 g hg h0=>by
  have:=hk g (by rw[hg];exact h1) (by rw[hg];exact h2) h0;exact⟨this.1,this.2.trans hg⟩
 refine⟨h.fed.turn (λg a b=>k .fed (by decide) (by decide) g b a) hs,h.out.turn (λg a b=>k .out (by decide) (by decide) g b a) hs,h.ev.keep hs (k .ev (by decide) (by decide)) (k .evd (by decide) (by decide)),
  (k .inw (by decide) (by decide) _ h.ti h.inw.lt).1.trans h.inw,(k .inw (by decide) (by decide) _ h.ti h.inw.lt).2,(k .outw (by decide) (by decide) _ h.tu h.outw.lt).1.trans h.outw,(k .outw (by decide) (by decide) _ h.tu h.outw.lt).2,
  h.map.keep (k .map (by decide) (by decide) _ h.tm h.map.lt).1,(k .map (by decide) (by decide) _ h.tm h.map.lt).2,λs hm=>(h.strs s hm).keep hs λg j hg h0=>k (.st s.id j) (by simp) (by simp) g hg h0,
  h.lst.keep hs (λg hg h0=>?_),h.enc.keep (λg a b=>(k .enc (by decide) (by decide) g a b).1) (λg a b=>(k .enc (by decide) (by decide) g a b).2),h.dec.keep (λg a b=>(k .dec (by decide) (by decide) g a b).1) (λg a b=>(k .dec (by decide) (by decide) g a b).2)⟩
 rcases hg with hg|hg
 · exact⟨(k .lst (by decide) (by decide) g hg h0).1,(k .lst (by decide) (by decide) g hg h0).2.trans hg.symm⟩
 · exact⟨(k .blk (by decide) (by decide) g hg h0).1,(k .blk (by decide) (by decide) g hg h0).2.trans hg.symm⟩
theorem CN.keep {b:Nat} {M:Cv} {L:Lay} (h:CN w ow b M L) (hs:w.heap.size<=w'.heap.size) (hk:∀g,ow g≠ .no->g<w.heap.size->w'.heap[g]?=w.heap[g]?):CN w' ow b M L:=
 ⟨(hk b (by rw[h.tb];decide) h.blk.lt).trans h.blk,h.tb,h.p.keep hs λg a _ c=>⟨hk g a c,rfl⟩,λg hg=>h.new g (Nat.le_trans hs hg)⟩
theorem CN.below {b:Nat} {M:Cv} {L:Lay} (h:CN w ow b M L) (hb:Below w.heap.size w w'):CN w' ow b M L:=h.keep hb.size λg _ hg=>hb.block g hg
theorem CN.alloc {b:Nat} {M:Cv} {L:Lay} (h:CN w ow b M L) (o:Obj):CN (w.alloc o) ow b M L:=h.below ((Below.refl _ _).alloc (Nat.le_refl _) o)
theorem CN.drew {b:Nat} {M:Cv} {L:Lay} (h:CN w ow b M L):CN w.drew ow b M L:=h.keep (Nat.le_refl _) λ_ _ _=>rfl
theorem CN.cell {b:Nat} {M M':Cv} {L L':Lay} (h:CN w ow b M L) (i:Nat) (v:Value) (hc:(cnC M L).setIfInBounds i v=cnC M' L') (hp:CP w ow M'.fed M'.out M'.evs M'.inw M'.outw M'.strs M'.list M'.hp L'):
 CN (w.setCell ⟨b,i,none⟩ v) ow b M' L'/\Fr w ow (w.setCell ⟨b,i,none⟩ v) ow:=by
 have hsz:(w.setCell ⟨b,i,none⟩ v).heap.size=w.heap.size:=by simp[World.setCell]
 refine⟨⟨hc▸h.blk.put i v,h.tb,hp.keep (by omega) λg _ hn _=>⟨Below.heap_setCell w _ _ g (λe=>hn (by rw[e];exact h.tb)),rfl⟩,λg hg=>h.new g (by omega)⟩,?_⟩;exact Fr.grown (grown_setCell (World.grownBy.refl w (some b)) i v) λg e=>by injection e with e;subst e;rw[h.tb];decide
end
end Go.Proofs.YtkpppjhbmnfmkaaGreatDoor
end

section
namespace Go.Proofs.YtkpppjhbmnfmkaaGreatDoor
open Go.RowKit Go.Own Go.Own.Im Go.Own.Cx
structure Kp (T:Tg->Prop) (w:World) (ow:Nat->Tg) (w':World) (ow':Nat->Tg):Prop where
 size:w.heap.size<=w'.heap.size
 keep:∀g,ow g≠ .no->¬T (ow g)->g<w.heap.size->w'.heap[g]?=w.heap[g]?/\ow' g=ow g
section
variable {T:Tg->Prop} {w w':World} {ow ow':Nat->Tg} {fed out:List UInt8} {evs:List EvV} {inw outw:Int} {strs:List Sv} {list:Option (Nat×Bool×List UInt8)} {H:HpM} {L:Lay}
theorem Kp.at_ (k:Kp T w ow w' ow') (t:Tg) (hn:t≠ .no) (ht:¬T t):∀g,ow g=t->g<w.heap.size->w'.heap[g]?=w.heap[g]?/\ow' g=t:=λg hg h0=>by
 have:=k.keep g (by rw[hg];exact hn) (by rw[hg];exact ht) h0;exact⟨this.1,this.2.trans hg⟩
theorem CP.fedK (h:CP w ow fed out evs inw outw strs list H L) (k:Kp T w ow w' ow') (ht:¬T .fed):Oz w' (λg=>ow' g= .fed) L.fed fed:=h.fed.turn (λg a b=>k.at_ .fed (by decide) ht g b a) k.size
theorem CP.outK (h:CP w ow fed out evs inw outw strs list H L) (k:Kp T w ow w' ow') (ht:¬T .out):OzF w' (λg=>ow' g= .out) L.out out:=h.out.turn (λg a b=>k.at_ .out (by decide) ht g b a) k.size
theorem CP.evK (h:CP w ow fed out evs inw outw strs list H L) (k:Kp T w ow w' ow') (ht:¬T .ev) (ht2:¬T .evd):EvS w' ow' L.ev evs:=h.ev.keep k.size (k.at_ .ev (by decide) ht) (k.at_ .evd (by decide) ht2)
theorem CP.inwK (h:CP w ow fed out evs inw outw strs list H L) (k:Kp T w ow w' ow') (ht:¬T .inw):Blk w' L.ib 177 #[.int .i64 inw]/\ow' L.ib= .inw:=⟨(k.at_ .inw (by decide) ht _ h.ti h.inw.lt).1.trans h.inw,(k.at_ .inw (by decide) ht _ h.ti h.inw.lt).2⟩
theorem CP.outwK (h:CP w ow fed out evs inw outw strs list H L) (k:Kp T w ow w' ow') (ht:¬T .outw):Blk w' L.ob 177 #[.int .i64 outw]/\ow' L.ob= .outw:=⟨(k.at_ .outw (by decide) ht _ h.tu h.outw.lt).1.trans h.outw,(k.at_ .outw (by decide) ht _ h.tu h.outw.lt).2⟩
theorem CP.mapK (h:CP w ow fed out evs inw outw strs list H L) (k:Kp T w ow w' ow') (ht:¬T .map):SM Tryz.prog 3 w' L.mb (strs.map (·.id)) (sptr L)/\ow' L.mb= .map:=⟨h.map.keep (k.at_ .map (by decide) ht _ h.tm h.map.lt).1,(k.at_ .map (by decide) ht _ h.tm h.map.lt).2⟩
theorem CP.strK (h:CP w ow fed out evs inw outw strs list H L) (k:Kp T w ow w' ow') (s:Sv) (hs:s∈strs) (ht:∀j,¬T (.st s.id j)):SN w' ow' L.ob (L.s s.id) s:=(h.strs s hs).keep k.size λg j hg h0=>k.at_ (.st s.id j) (by simp) (ht j) g hg h0
theorem CP.lstK (h:CP w ow fed out evs inw outw strs list H L) (k:Kp T w ow w' ow') (h1:¬T .lst) (h2:¬T .blk):LsS w' ow' L.list list:=h.lst.keep k.size λg hg h0=>by
 rcases hg with hg|hg
 · exact⟨(k.at_ .lst (by decide) h1 g hg h0).1,(k.at_ .lst (by decide) h1 g hg h0).2.trans hg.symm⟩
 · exact⟨(k.at_ .blk (by decide) h2 g hg h0).1,(k.at_ .blk (by decide) h2 g hg h0).2.trans hg.symm⟩
theorem CP.encK (h:CP w ow fed out evs inw outw strs list H L) (k:Kp T w ow w' ow') (ht:¬T .enc):EncS w' (λg=>ow' g= .enc) L.enc H:=h.enc.keep (λg a b=>(k.at_ .enc (by decide) ht g a b).1) λg a b=>(k.at_ .enc (by decide) ht g a b).2
theorem CP.decK (h:CP w ow fed out evs inw outw strs list H L) (k:Kp T w ow w' ow') (ht:¬T .dec):DecS w' (λg=>ow' g= .dec) L.dec H:=h.dec.keep (λg a b=>(k.at_ .dec (by decide) ht g a b).1) λg a b=>(k.at_ .dec (by decide) ht g a b).2
theorem CN.blkK {b:Nat} {M:Cv} (h:CN w ow b M L) (k:Kp T w ow w' ow') (ht:¬T .cn):Blk w' b 80 (cnC M L)/\ow' b= .cn:=⟨(k.at_ .cn (by decide) ht _ h.tb h.blk.lt).1.trans h.blk,(k.at_ .cn (by decide) ht _ h.tb h.blk.lt).2⟩
theorem Kp.row {b:Nat} {M:Cv} (h:CN w ow b M L) {row:Option Nat} {t:Tg} (hg:w.grownBy w' row) (hr:∀g,row=some g->ow g=t):Kp (λx=>x=t) w ow w' ow:=
 ⟨hg.size,λg _ ht h0=>⟨hg.block g h0 (λe=>ht (hr g e.symm)),rfl⟩⟩
theorem Kp.rowNew {b:Nat} {M:Cv} (h:CN w ow b M L) {row:Option Nat} {t:Tg} (hg:w.grownBy w' row) (hr:∀g,row=some g->ow g=t) (j:Nat) (hj:w.heap.size<=j):Kp (λx=>x=t) w ow w' (upd ow j t):=
 ⟨hg.size,λg _ ht h0=>⟨hg.block g h0 (λe=>ht (hr g e.symm)),upd_other _ _ (by omega)⟩⟩
end
end Go.Proofs.YtkpppjhbmnfmkaaGreatDoor
end

section
namespace Go.Proofs.YtkpppjhbmnfmkaaGreatDoor
open Go.RowKit Go.Own Go.Own.Im Go.Own.Cx
section
variable {w wA w8:World} {ow:Nat->Tg} {b:Nat} {M:Cv} {L:Lay} {row:Option Nat} {t:Tg}
theorem CN.apped (h:CN wA ow b M L) (hg:wA.grownBy w8 row) (hr:∀g,row=some g->ow g=t/\g<wA.heap.size) (h4:t≠ .no):∃ow',Kp (λx=>x=t) wA ow w8 ow'/\Fr wA ow w8 ow'/\(∀g,w8.heap.size<=g->ow' g= .no)/\∀g,g<w8.heap.size->(ow g=t\/(row=none/\g=wA.heap.size))->ow' g=t:=by
 have hs:=hg.size;have h0:Fr wA ow w8 ow:=Fr.grown hg λg e=>by rw[(hr g e).1];exact h4
 by_cases hc:row=none/\wA.heap.size<w8.heap.size
 · refine⟨upd ow wA.heap.size t,Kp.rowNew h hg (λg e=>(hr g e).1) _ (Nat.le_refl _),⟨h0.os,h0.tape,h0.output,h0.size,h0.keep,λg h3 ho=>by rw[upd_other _ _ (by omega)];exact ho⟩,λg h5=>by rw[upd_other _ _ (by omega)];exact h.new g (by omega),λg h3 ho=>?_⟩
   by_cases e:g=wA.heap.size
   · rw[e];exact upd_same _ _ _
   · rw[upd_other _ _ e]
     rcases ho with ho|⟨_,ho⟩
     · exact ho
     · exact absurd ho e
 · refine⟨ow,Kp.row h hg (λg e=>(hr g e).1),h0,λg h5=>h.new g (by omega),λg h3 ho=>?_⟩
   rcases ho with ho|⟨h1,h2⟩
   · exact ho
   · exact absurd ⟨h1,by omega⟩ hc
theorem CN.feeds (h:CN wA ow b M L) {v:Value} {l:List UInt8} (hO:Oz w8 (λg=>ow g= .fed\/(row=none/\g=wA.heap.size)) v l) (hg:wA.grownBy w8 row) (hr:∀g,row=some g->ow g= .fed/\g<wA.heap.size):
 ∃ow' L',CN (w8.setCell ⟨b,3,none⟩ v) ow' b {M with fed:=l} L'/\Fr wA ow (w8.setCell ⟨b,3,none⟩ v) ow'/\L'.s=L.s:=by
 obtain⟨ow',k,h3,h1,h2⟩:=h.apped hg hr (by decide);have h0:=h.blkK k (by decide);have hz:Oz w8 (λg=>ow' g= .fed) v l:=hO.owned h2;have h4:CP w8 ow' l M.out M.evs M.inw M.outw M.strs M.list M.hp {L with fed:=v}:=
  ⟨hz,h.p.outK k (by decide),h.p.evK k (by decide) (by decide),(h.p.inwK k (by decide)).1,(h.p.inwK k (by decide)).2,(h.p.outwK k (by decide)).1,(h.p.outwK k (by decide)).2,(h.p.mapK k (by decide)).1,(h.p.mapK k (by decide)).2,
    λs hs=>h.p.strK k s hs (by intro j;simp),h.p.lstK k (by decide) (by decide),h.p.encK k (by decide),h.p.decK k (by decide)⟩
 have hsz:(w8.setCell ⟨b,3,none⟩ v).heap.size=w8.heap.size:=by simp[World.setCell]
 refine⟨ow',{L with fed:=v},⟨h0.1.put 3 _,h0.2,h4.keep (by omega) λg _ hn _=>⟨Below.heap_setCell w8 _ _ g (λe=>hn (by rw[e];exact h0.2)),rfl⟩,λg h5=>h1 g (by omega)⟩,h3.trans ?_,rfl⟩;exact Fr.grown (grown_setCell (World.grownBy.refl w8 (some b)) 3 _) λg e=>by injection e with e;subst e;rw[h0.2];decide
theorem CN.blocks (h:CN wA ow b M L) {gp id:Nat} {fin:Bool} {l0 l:List UInt8} {v v0:Value} (hM:M.list=some (id,fin,l0)) (hL:L.list= .pointer (some ⟨gp,0,none⟩)) (h5:ow gp= .lst) (hb:Blk wA gp 195 #[.int .i64 (id:Nat),.bool fin,v0])
 (hO:Oz w8 (λg=>ow g= .blk\/(row=none/\g=wA.heap.size)) v l) (hg:wA.grownBy w8 row) (hr:∀g,row=some g->ow g= .blk/\g<wA.heap.size):
 ∃ow',CN (w8.setCell ⟨gp,2,none⟩ v) ow' b {M with list:=some (id,fin,l)} L/\Fr wA ow (w8.setCell ⟨gp,2,none⟩ v) ow'/\ow' gp= .lst/\Blk (w8.setCell ⟨gp,2,none⟩ v) gp 195 #[.int .i64 (id:Nat),.bool fin,v]:=by
 obtain⟨ow',k,h6,h3,h4⟩:=h.apped hg hr (by decide);have hc:=h.blkK k (by decide);have hz:Oz w8 (λg=>ow' g= .blk) v l:=hO.owned h4;have hp:=k.at_ .lst (by decide) (by decide) gp h5 hb.lt;have h7:Blk w8 gp 195 #[.int .i64 (id:Nat),.bool fin,v0]:=hp.1.trans hb;have hsz:(w8.setCell ⟨gp,2,none⟩ v).heap.size=w8.heap.size:=by simp[World.setCell]
 have k2:Kp (λx=>x= .blk\/x= .lst) wA ow (w8.setCell ⟨gp,2,none⟩ v) ow':=⟨by have:=k.size;omega,λg hn ht h8=>by
  have h1:=k.keep g hn (λe=>ht (.inl e)) h8;exact⟨(Below.heap_setCell w8 _ _ g (λe=>ht (.inr (by rw[e];exact h5)))).trans h1.1,h1.2⟩⟩
 have h2:=h.blkK k2 (by decide);have h0:=h7.put 2 v;simp only[List.setIfInBounds_toArray,List.set_cons_zero,List.set_cons_succ]at h0;have h9:Oz (w8.setCell ⟨gp,2,none⟩ v) (λg=>ow' g= .blk) v l:=hz.grown (grown_setCell (World.grownBy.refl w8 (some gp)) 2 v) λg e he=>by
  injection e with e
  subst e;rw[hp.2]at he;cases he
 refine⟨ow',⟨h2.1,h2.2,⟨h.p.fedK k2 (by decide),h.p.outK k2 (by decide),h.p.evK k2 (by decide) (by decide),(h.p.inwK k2 (by decide)).1,(h.p.inwK k2 (by decide)).2,(h.p.outwK k2 (by decide)).1,(h.p.outwK k2 (by decide)).2,(h.p.mapK k2 (by decide)).1,(h.p.mapK k2 (by decide)).2,
  λs hs=>h.p.strK k2 s hs (by intro j;simp),⟨gp,v,hL,hp.2,h0,h9⟩,h.p.encK k2 (by decide),h.p.decK k2 (by decide)⟩,λg hd=>h3 g (by omega)⟩,h6.trans ?_,hp.2,h0⟩
 exact Fr.grown (grown_setCell (World.grownBy.refl w8 (some gp)) 2 _) λg e=>by injection e with e;subst e;rw[hp.2];decide
def offT (ow:Nat->Tg):Nat->Tg:=λj=>if ow j= .lst\/ow j= .blk then .no else ow j
theorem CN.unlists (h:CN w ow b M L):CN (w.setCell ⟨b,16,none⟩ (.pointer none)) (offT ow) b {M with list:=none} {L with list:=.pointer none}/\Fr w ow (w.setCell ⟨b,16,none⟩ (.pointer none)) (offT ow):=by
 have h0:∀j,ow j≠ .lst->ow j≠ .blk->offT ow j=ow j:=λj h1 h2=>by unfold offT;rw[if_neg];rintro(e|e);exact h1 e;exact h2 e
 have hsz:(w.setCell ⟨b,16,none⟩ (.pointer none)).heap.size=w.heap.size:=by simp[World.setCell]
 have k:Kp (λx=>x= .blk\/x= .lst) w ow w (offT ow):=⟨Nat.le_refl _,λg _ ht _=>⟨rfl,h0 g (λe=>ht (.inr e)) (λe=>ht (.inl e))⟩⟩;have h3:=h.blkK k (by decide);have h4:CP w (offT ow) M.fed M.out M.evs M.inw M.outw M.strs none M.hp {L with list:=.pointer none}:=
  ⟨h.p.fedK k (by decide),h.p.outK k (by decide),h.p.evK k (by decide) (by decide),(h.p.inwK k (by decide)).1,(h.p.inwK k (by decide)).2,(h.p.outwK k (by decide)).1,(h.p.outwK k (by decide)).2,(h.p.mapK k (by decide)).1,(h.p.mapK k (by decide)).2,
    λs hs=>h.p.strK k s hs (by intro j;simp),rfl,h.p.encK k (by decide),h.p.decK k (by decide)⟩
 refine⟨⟨h3.1.put 16 _,h3.2,h4.keep (by omega) λg _ hn _=>⟨Below.heap_setCell w _ _ g (λe=>hn (by rw[e];exact h3.2)),rfl⟩,λg h6=>?_⟩,⟨rfl,rfl,rfl,by omega,λg h5 ho=>Below.heap_setCell w _ _ g (λe=>by rw[e,h.tb]at ho;cases ho),λg h5 ho=>?_⟩⟩
 · rw[h0 g (by rw[h.new g (by omega)];decide) (by rw[h.new g (by omega)];decide)]
   exact h.new g (by omega)
 · rw[h0 g (by rw[ho];decide) (by rw[ho];decide)]
   exact ho
end
end Go.Proofs.YtkpppjhbmnfmkaaGreatDoor
end

section
namespace Go.Proofs.YtkpppjhbmnfmkaaGreatDoor
open Go.RowKit Go.Own
def ev (a:Addr):Value:=.iface 327 (.pointer (some a))
def ErrC (w:World) (g:Nat):Prop:=∃a,w.cell? ⟨g,0,none⟩=some (ev a)
structure HpE (w:World):Prop where
 room:20<=w.heap.size
 long:ErrC w 5
 end_:ErrC w 10
 idx:ErrC w 12
 tab:ErrC w 8
 list:ErrC w 6
 huff:ErrC w 16
 gone:ErrC w 3
 win:ErrC w 11
 max:∃m,w.cell? ⟨13,0,none⟩=some (.int .i64 m)
theorem HpE.keep {w w':World} (h:HpE w) (hs:w.heap.size<=w'.heap.size) (hk:∀g,g<20->w'.heap[g]?=w.heap[g]?):HpE w':=by
 have kc:∀g,g<20->w'.cell? ⟨g,0,none⟩=w.cell? ⟨g,0,none⟩:=λg hg=>World.cell?_of_block (a:=⟨g,0,none⟩) (hk g hg);have ke:∀g,g<20->ErrC w g->ErrC w' g:=λg hg ⟨a,ha⟩=>⟨a,(kc g hg).trans ha⟩;obtain⟨m,hm⟩:=h.max;exact⟨Nat.le_trans h.room hs,ke _ (by decide) h.long,ke _ (by decide) h.end_,ke _ (by decide) h.idx,ke _ (by decide) h.tab,ke _ (by decide) h.list,ke _ (by decide) h.huff,ke _ (by decide) h.gone,ke _ (by decide) h.win,⟨m,(kc _ (by decide)).trans hm⟩⟩
theorem HpE.below {w w':World} {B:Nat} (h:HpE w) (hb:Below B w w') (hB:20<=B):HpE w':=h.keep hb.size λg hg=>hb.block g (by omega)
end Go.Proofs.YtkpppjhbmnfmkaaGreatDoor
end

section
set_option maxHeartbeats 400000
namespace Go.Proofs.YtkpppjhbmnfmkaaGreatDoor
open Go.RowKit Go.Own Go.Own.Cx
theorem Blk3 {w:World} {g:Nat} {t:TypeId} {cs:Array Value} (h:Blk w g t cs) (hs:cs.size=3) (v0 v1 v2:Value):Blk (((w.setCell ⟨g,0,none⟩ v0).setCell ⟨g,1,none⟩ v1).setCell ⟨g,2,none⟩ v2) g t #[v0,v1,v2]:=by
 have e:(((cs.setIfInBounds 0 v0).setIfInBounds 1 v1).setIfInBounds 2 v2)= #[v0,v1,v2]:=by
  apply Array.ext
  · simp[hs]
  · intro i h1 h2
    simp at h2;have:i=0\/i=1\/i=2:=by omega
    rcases this with rfl|rfl|rfl<;>simp[Array.getElem_setIfInBounds,hs]
 exact e▸((h.put 0 v0).put 1 v1).put 2 v2
theorem below3 {B:Nat} {a w:World} {g:Nat} (h:Below B a w) (hg:B<=g) (v0 v1 v2:Value):Below B a (((w.setCell ⟨g,0,none⟩ v0).setCell ⟨g,1,none⟩ v1).setCell ⟨g,2,none⟩ v2):=
 ((h.setCell (p:=⟨g,0,none⟩) hg v0).setCell (p:=⟨g,1,none⟩) hg v1).setCell (p:=⟨g,2,none⟩) hg v2
theorem results_static (tmps:Array Value) (w:World) (g:Nat) (a b c v:Value) (ht:tmps[2]?=some (.pointer (some ⟨g,0,none⟩))) (h3:tmps[3]?=some v) (hb:Blk w g 63 #[a,b,c]):
 (results Tryz.f212 tmps).run Tryz.prog w= .ok (.tuple #[.agg #[a,b,c],v]) w:=by
 have c0:w.cell? ⟨g,0,none⟩=some a:=hb.cell 0;have c1:w.cell? ⟨g,1,none⟩=some b:=hb.cell 1;have c2:w.cell? ⟨g,2,none⟩=some c:=hb.cell 2;simp[results,Tryz.results212,go_sem,ht,h3,c0,c1,c2]
theorem results_tget (tmps:Array Value) (w:World) (g:Nat) (a b c v:Value) (ht:tmps[4]?=some (.pointer (some ⟨g,0,none⟩))) (h3:tmps[5]?=some v) (hb:Blk w g 63 #[a,b,c]):
 (results Tryz.f170 tmps).run Tryz.prog w= .ok (.tuple #[.agg #[a,b,c],v]) w:=by
 have c0:w.cell? ⟨g,0,none⟩=some a:=hb.cell 0;have c1:w.cell? ⟨g,1,none⟩=some b:=hb.cell 1;have c2:w.cell? ⟨g,2,none⟩=some c:=hb.cell 2;simp[results,Tryz.results170,go_sem,ht,h3,c0,c1,c2]
def lns:List UInt8->List (List UInt8)
 |[]=>[[]]
 |b::l=>if b=10 then[]::lns l else match lns l with
  |[]=>[[b]]
  |x::xs=>(b::x)::xs
theorem lns_ne:∀l,lns l≠[]
 |[]=>by simp[lns]
 |b::l=>by
  unfold lns
  split
  · simp
  · split<;>simp
theorem lns_none:∀{l:List UInt8},(10:UInt8)∉l->lns l=[l]
 |[],_=>rfl
 |b::l,h=>by
  rw[List.mem_cons,not_or]at h;rw[lns,if_neg (λe=>h.1 e.symm),lns_none h.2]
theorem lns_hit:∀{p:List UInt8} (r:List UInt8),(10:UInt8)∉p->lns (p++10::r)=p::lns r
 |[],r,_=>by simp[lns]
 |b::p,r,h=>by
  rw[List.mem_cons,not_or]at h;rw[List.cons_append,lns,if_neg (λe=>h.1 e.symm),lns_hit r h.2]
theorem idx_none:∀{l:List UInt8},(10:UInt8)∉l->Lib.index l [10]= -1
 |[],_=>rfl
 |b::l,h=>by
  rw[List.mem_cons,not_or]at h;simp[Lib.index,h.1,idx_none h.2]
theorem idx_hit:∀{p:List UInt8} (r:List UInt8),(10:UInt8)∉p->Lib.index (p++10::r) [10]=(p.length:Nat)
 |[],r,_=>by simp[Lib.index]
 |b::p,r,h=>by
  rw[List.mem_cons,not_or]at h;have hn:¬((p.length:Int)= -1):=by omega
  simp[Lib.index,h.1,idx_hit r h.2,hn]
theorem split_at:∀(l:List UInt8),(10:UInt8)∉l\/∃p r,l=p++10::r/\(10:UInt8)∉p
 |[]=>.inl (by simp)
 |b::l=>by
  by_cases h:b=10
  · exact .inr ⟨[],l,by rw[h];rfl,by simp⟩
  · have hb:¬(10:UInt8)=b:=λe=>h e.symm
    rcases split_at l with h1|⟨p,r,e,hp⟩
    · exact .inl (by simp[h1,hb])
    · exact .inr ⟨b::p,r,by rw[e];rfl,by simp[hp,hb]⟩
theorem lns_split:∀(n:Nat) (l:List UInt8),l.length<=n->Lib.splitK [10] 0 (Lib.count l [10]) l=lns l/\Lib.count l [10]+1=(lns l).length
 |n,l,hn=>by
  rcases split_at l with h|⟨p,r,rfl,h⟩
  · rw[Lib.count_miss (idx_none h),lns_none h]
    exact⟨rfl,rfl⟩
  · have hi:=idx_hit r h
    have hc:=Lib.count_hit (by simp) hi;have hd:(p++10::r).drop (p.length+[(10:UInt8)].length)=r:=by simp
    rw[hd]at hc
    match n,hn with
    |0,hn=>simp at hn
    |n+1,hn=>
     obtain⟨h1,h2⟩:=lns_split n r (by simp at hn;omega);have hne:¬((p.length:Int)== -1)=true:=by simp<;>omega
     rw[hc,lns_hit r h,Nat.add_comm 1,Lib.splitK,hi,if_neg hne];refine⟨?_,by simp;omega⟩;have e1:((p.length:Int)).toNat=p.length:=by simp
     rw[e1,hd,h1];simp
theorem hgive_nil (w:World):Calls Tryz.prog 242 #[.nilIface] w λe w'=>e= .returned (.tuple #[])/\w'=w:=by
 go_enter Tryz.func242,Tryz.ntmps242;go_wp2;go_end0;exact⟨rfl,rfl⟩
end Go.Proofs.YtkpppjhbmnfmkaaGreatDoor
end

section
namespace Go.Own.Im
open Go Go.RowKit Go.Own
def KM (P:Program) (kt:TypeId) (w:World) (b n:Nat) (f:Value->Option Value):Prop:=
 ∃D,w.ownsMap P kt Rh b n D/\Maps.IsMap D/\∀key kl,keyOf P kt key=some kl->Maps.has D kl=(f key).isSome/\∀z v,f key=some v->D.atKey kl z= .held v
section
variable {P:Program} {kt:TypeId} {w w':World} {b n:Nat} {f:Value->Option Value}
theorem KM.lt (h:KM P kt w b n f):b<w.heap.size:=by
 obtain⟨D,h1,_⟩:=h;exact h1.lt
theorem KM.kept {row:Option Nat} (h:KM P kt w b n f) (hg:w.grownBy w' row) (hne:some b≠row):KM P kt w' b n f:=by
 obtain⟨D,h1,h2⟩:=h;exact⟨D,h1.kept hg hne,h2⟩
theorem KM.alloc (h:KM P kt w b n f) (o:Obj):KM P kt (w.alloc o) b n f:=h.kept (World.grownBy_alloc w o none) (by simp)
theorem KM.below {B:Nat} (h:KM P kt w b n f) (hb:Below B w w') (hB:b<B):KM P kt w' b n f:=by
 obtain⟨D,⟨es,clock,he,h1⟩,h2⟩:=h;exact⟨D,⟨es,clock,(hb.block b hB).trans he,h1⟩,h2⟩
theorem KM.same (h:KM P kt w b n f) {g:Value->Option Value} (hg:∀k,f k=g k):KM P kt w b n g:=by
 have:f=g:=funext hg;exact this▸h
theorem KM.made (P:Program) (kt:TypeId) (w:World):KM P kt (w.alloc (.map #[] 0)) w.heap.size 0 λ_=>none:=
 ⟨.map [],World.ownsMap_made w P kt Rh,Maps.isMap_empty,λ_ _ _=>⟨rfl,λ_ _ h=>by cases h⟩⟩
variable {t e:TypeId} (ht:P.underlying t=some (.map kt e)) (K:Maps.Keyed P kt)
include ht K
theorem KM.look_ok (h:KM P kt w b n f) {z:Value} (hz:(zeroValue e).run P w= .ok z w) {key:Value} {kl:Lit} (hk:keyOf P kt key=some kl):
 (Instr.lookup t (.map (some b)) key true).run P w= .ok (.tuple #[(f key).getD z,.bool (f key).isSome]) w:=by
 obtain⟨D,h1,h2,h3⟩:=h;obtain⟨v,ps,h0,hv⟩:=h1.look_ok K ht hz (zd:=.held z) (zp:=[]) rfl hk;rw[h0,(h3 key kl hk).1];refine congrArg (λx=>Result.ok (Value.tuple #[x,.bool (f key).isSome]) w) ?_;cases hf:f key with
 |none=>
  have hn:=(h3 key kl hk).1;rw[hf]at hn;change Rh v=some (D.atKey kl _,ps)at hv;rw[Maps.atKey_of_not_has hn]at hv;simp only[Rh,Option.some.injEq,Prod.mk.injEq,DataW.held.injEq]at hv;rw[hv.1];rfl
 |some u=>
  change Rh v=some (D.atKey kl _,ps)at hv;rw[(h3 key kl hk).2 _ u hf]at hv;simp only[Rh,Option.some.injEq,Prod.mk.injEq,DataW.held.injEq]at hv;rw[hv.1];rfl
theorem KM.put (h:KM P kt w b n f) (hn:n<maxLen) {key:Value} {kl:Lit} (hk:keyOf P kt key=some kl) (v:Value) (g:Value->Option Value) (hg1:g key=some v) (hg2:∀x,x≠key->g x=f x):
 ∃w',(Instr.mapUpdate t (.map (some b)) key v).run P w= .ok () w'/\KM P kt w' b (n+1) g/\w.grownBy w' (some b):=by
 obtain⟨D,h1,h2,h3⟩:=h;obtain⟨w',h0,r1,r2⟩:=h1.update K ht hn hk (val:=v) (d:=.held v) (ps:=[]) rfl;refine⟨w',h0,⟨_,r1,h2.put _ _,λx lx hx=>?_⟩,r2⟩;by_cases ex:lx=kl
 · subst ex
   have:=K.inj hx hk;subst this;rw[hg1];exact⟨Maps.has_put_same h2 (K.key hk) _,λz u hu=>by injection hu with hu;subst hu;exact Maps.atKey_put_same h2 (K.key hk) _ _⟩
 · have hne:x≠key:=λe2=>by
    subst e2;rw[hk]at hx;injection hx with hx
    exact ex hx.symm
   rw[hg2 x hne];refine⟨(Maps.has_put_other ex _).trans (h3 x lx hx).1,λz u hu=>?_⟩;exact(Maps.atKey_put_other ex _ _).trans ((h3 x lx hx).2 z u hu)
end
section
variable {P:Program} {ops:Array Oper} {rest:List Oper} {o:Oper} {a:Act} {Q:Exit->Act->World->Prop}
theorem wpList_kput (w:World) (hg:o.guard=none) (m x v:Operand) (t:TypeId) (h0:o.op=Op.insert t m x v\/o.op=Op.mapUpdate t m x v) {kt e:TypeId} (ht:P.underlying t=some (.map kt e)) (K:Maps.Keyed P kt)
 (b n:Nat) (f:Value->Option Value) (hm:a.eval m= .map (some b)) (h:KM P kt w b n f) (hn:n<maxLen) (key:Value) (kl:Lit) (hk:keyOf P kt key=some kl) (hx:a.eval x=key) (u:Value) (hv:a.eval v=u) (g:Value->Option Value) (h2:g key=some u) (h3:∀y,y≠key->g y=f y)
 (hK:∀w',KM P kt w' b (n+1) g->w.grownBy w' (some b)->wpList P ops Q rest (a.put o.dst undef) w'):wpList P ops Q (o::rest) a w:=by
 refine wpList_plain hg λK' h4=>?_;obtain⟨w',h1,r1,r2⟩:=h.put ht K hn hk u g h2 h3;unfold Oper.wp;rcases h0 with h0|h0<;>simp[execOp,h0,hm,hx,hv,h1,Result.andThen]<;>exact h4 _ _ (hK w' r1 r2)
end
end Go.Own.Im
end

section
namespace Go.Proofs.YtkpppjhbmnfmkaaGreatDoor
open Go.RowKit Go.Own Go.Own.Hf Go.Own.Im
attribute [local go_sem] Oper.semAt_some
theorem word_keyed:Maps.Keyed Tryz.prog 324:=Maps.Keyed.of_law (deep_law_laid (by kernel_rfl) (m:=2) (by omega) (of_decide_eq_true (by kernel_rfl)) (by kernel_rfl) (by rw[Tryz.underlying324]))
def wd (c n:Nat):Value:=.agg #[.int .u32 (c:Nat),.int .i64 (n:Nat)]
theorem word_key (c n:Nat) (hc:c<4294967296) (hn:n<=1000):∃kl,keyOf Tryz.prog 324 (wd c n)=some kl:=by
 have h1:(Lit.int .u32 (c:Int)).wf=true:=by simp[Lit.wf,IntKind.min,IntKind.max,IntKind.bits,IntKind.signed];omega
 have h2:(Lit.int .i64 (n:Int)).wf=true:=by simp[Lit.wf,IntKind.min,IntKind.max,IntKind.bits,IntKind.signed];omega
 have k1:Tryz.prog.keyType 324=true:=by kernel_rfl
 have k2:(wd c n).formed Tryz.prog 324=true:=by
  have c2:Tryz.prog.cellsOf 324=2:=by kernel_rfl
  simp[wd,Value.formed,Tryz.underlying324,c2]
 have k3:Tryz.prog.keyLits (Tryz.prog.types.size+1) 324 [.int .u32 (c:Int),.int .i64 (n:Int)]=some [.int .u32 (c:Int),.int .i64 (n:Int)]:=by
  obtain⟨d,hd⟩:∃d,Tryz.prog.types.size=d+1:=⟨Tryz.prog.types.size-1,by have:0<Tryz.prog.types.size:=of_decide_eq_true (by kernel_rfl);omega⟩;have c2:Tryz.prog.cellsOf 324=2:=by kernel_rfl
  have c3:Tryz.prog.cellsOf 229=1:=by kernel_rfl
  have c4:Tryz.prog.cellsOf 3=1:=by kernel_rfl
  have i1:∀v:Int,(Lit.int .u32 v).wf=true->Tryz.prog.keyLits (d+1) 229 [.int .u32 v]=some [.int .u32 v]:=λv hv=>by
   simp[Program.keyLits,Tryz.underlying229,hv]
  have i2:∀v:Int,(Lit.int .i64 v).wf=true->Tryz.prog.keyLits (d+1) 3 [.int .i64 v]=some [.int .i64 v]:=λv hv=>by
   simp[Program.keyLits,Tryz.underlying3,hv]
  rw[hd];generalize hq:d+1=q at*
  unfold Program.keyLits;rw[Tryz.underlying324];simp[c2,c3,c4,i1 _ h1,i2 _ h2]
 unfold keyOf;rw[Tryz.underlying324,k1,k2];refine⟨.string (keyBytes [.int .u32 (c:Int),.int .i64 (n:Int)]),?_⟩;simp only[Bool.and_self,if_true];exact congrArg (Option.map λls=>Lit.string (keyBytes ls)) k3
end Go.Proofs.YtkpppjhbmnfmkaaGreatDoor
end

section
set_option maxHeartbeats 4000000
set_option maxRecDepth 100000
namespace Go.Proofs.YtkpppjhbmnfmkaaGreatDoor
open Lib (hid)
open Go.RowKit Go.Own Go.Own.Hf Go.Own.Im
attribute [local go_sem] Oper.semAt_some
open Classical in
noncomputable def kf (k:Nat) (v:Value):Option Value:=if h:∃s,s<k/\v=wd (cd s) (sz s)then some (.int .i64 (Classical.choose h:Nat))else none
theorem wd_inj {a b c d:Nat} (h:wd a b=wd c d):a=c/\b=d:=by
 injection h with h
 injection h with h
 injection h with h1 h2
 injection h1 with _ h1
 injection h2 with h2 _
 injection h2 with _ h2
 omega
theorem cd_inj {s t:Nat} (hs:s<257) (ht:t<257) (h:wd (cd s) (sz s)=wd (cd t) (sz t)):s=t:=by
 obtain⟨h1,h2⟩:=wd_inj h;have:=look_of hs;rw[h1,h2,look_of ht]at this;injection this with this
 exact this.symm
theorem kf_at {k s:Nat} (hk:k<=257) (hs:s<k):kf k (wd (cd s) (sz s))=some (.int .i64 (s:Nat)):=by
 have h:∃t,t<k/\wd (cd s) (sz s)=wd (cd t) (sz t):=⟨s,hs,rfl⟩;rw[kf,dif_pos h];have h2:=Classical.choose_spec h;rw[<-cd_inj (by omega) (by omega) h2.2]
theorem kf_other {k:Nat} (v:Value) (hk:k<257) (hv:v≠wd (cd k) (sz k)):kf (k+1) v=kf k v:=by
 by_cases h:∃s,s<k/\v=wd (cd s) (sz s)
 · obtain⟨s,hs,rfl⟩:=h
   rw[kf_at (by omega) hs,kf_at (by omega) (by omega)]
 · have h2:¬∃s,s<k+1/\v=wd (cd s) (sz s):=by
    rintro⟨s,hs,e⟩;rcases Nat.lt_or_ge s k with h3|h3
    · exact h ⟨s,h3,e⟩
    · have:s=k:=by omega
      subst this;exact hv e
   rw[kf,kf,dif_neg h,dif_neg h2]
theorem kf_look (c n:Nat):kf 257 (wd c n)=(Hf.look c n).map λs:Nat=>Value.int .i64 (s:Int):=by
 cases h:Hf.look c n with
 |some s=>
  obtain⟨h1,h2,h3⟩:=look_is h;rw[<-h2,<-h3,kf_at (Nat.le_refl _) h1]
  rfl
 |none=>
  rw[kf,dif_neg]
  · rfl
  · rintro⟨s,hs,e⟩
    obtain⟨h1,h2⟩:=wd_inj e;have:=look_of hs;rw[<-h1,<-h2,h]at this;cases this
theorem idx_cod {v:Value} (hv:CodV v) {s:Nat} (hs:s<257) (W:World):(Instr.index 250 v (.int .i64 (s:Int))).run Tryz.prog W= .ok (.int .u32 (cd s:Nat)) W:=by
 obtain⟨cs,rfl,hz,hc⟩:=hv;have h1:=hc s hs;obtain⟨i,hi,h0⟩:=Option.map_eq_some_iff.1 (show(Tryz.prog.info? 229).map (·.size)=some 1 by kernel_rfl);have h4:(s:Int)<257:=by omega
 have h2:s<cs.size:=by omega
 rw[Array.getElem?_eq_getElem h2]at h1;injection h1 with h1
 have ha:∀W,(isAgg 229).run Tryz.prog W= .ok false W:=λW=>by simp[isAgg,run_underlying Tryz.underlying229]
 have h3:∀W,(sizeOf 229).run Tryz.prog W= .ok 1 W:=λW=>by simp[sizeOf,typeInfo,hi,h0]
 simp[Instr.index,run_underlying Tryz.underlying250,asIntOf,hs,h3,part,ha,Array.getElem?_eq_getElem h2,h1]
theorem arr_gen (t:Array Value) (n:Nat) (h:t.size=n):t=((List.range n).map (λk=>t.getD k undef)).toArray:=by
 apply Array.ext
 · simp[h]
 · intro i h1 h2
   simp[Array.getD,h1]
theorem arr90 (t:Array Value) (h:t.size=90):t=(t.getD 0 undef::t.getD 1 undef::t.getD 2 undef::t.getD 3 undef::t.getD 4 undef::t.getD 5 undef::t.getD 6 undef::t.getD 7 undef::t.getD 8 undef::t.getD 9 undef::t.getD 10 undef::t.getD 11 undef::t.getD 12 undef::t.getD 13 undef::t.getD 14 undef::t.getD 15 undef::t.getD 16 undef::t.getD 17 undef::t.getD 18 undef::t.getD 19 undef::t.getD 20 undef::t.getD 21 undef::t.getD 22 undef::t.getD 23 undef::t.getD 24 undef::t.getD 25 undef::t.getD 26 undef::t.getD 27 undef::t.getD 28 undef::t.getD 29 undef::t.getD 30 undef::t.getD 31 undef::t.getD 32 undef::t.getD 33 undef::t.getD 34 undef::t.getD 35 undef::t.getD 36 undef::t.getD 37 undef::t.getD 38 undef::t.getD 39 undef::t.getD 40 undef::t.getD 41 undef::t.getD 42 undef::t.getD 43 undef::t.getD 44 undef::t.getD 45 undef::t.getD 46 undef::t.getD 47 undef::t.getD 48 undef::t.getD 49 undef::t.getD 50 undef::t.getD 51 undef::t.getD 52 undef::t.getD 53 undef::t.getD 54 undef::t.getD 55 undef::t.getD 56 undef::t.getD 57 undef::t.getD 58 undef::t.getD 59 undef::t.getD 60 undef::t.getD 61 undef::t.getD 62 undef::t.getD 63 undef::t.getD 64 undef::t.getD 65 undef::t.getD 66 undef::t.getD 67 undef::t.getD 68 undef::t.getD 69 undef::t.getD 70 undef::t.getD 71 undef::t.getD 72 undef::t.getD 73 undef::t.getD 74 undef::t.getD 75 undef::t.getD 76 undef::t.getD 77 undef::t.getD 78 undef::t.getD 79 undef::t.getD 80 undef::t.getD 81 undef::t.getD 82 undef::t.getD 83 undef::t.getD 84 undef::t.getD 85 undef::t.getD 86 undef::t.getD 87 undef::t.getD 88 undef::t.getD 89 undef::[]).toArray:=by
 exact arr_gen t 90 h
structure HA (a:Act) (v0 v4 v9 v10 v11:Value):Prop where
 dfr:a.defers=[]
 size:a.tmps.size=90
 s0:a.tmps.getD 0 undef=v0
 s4:a.tmps.getD 4 undef=v4
 s9:a.tmps.getD 9 undef=v9
 s10:a.tmps.getD 10 undef=v10
 s11:a.tmps.getD 11 undef=v11
theorem HA.lit {a:Act} {v0 v4 v9 v10 v11:Value} (h:HA a v0 v4 v9 v10 v11):∃u:Nat->Value,a={tmps:=(v0::u 1::u 2::u 3::v4::u 5::u 6::u 7::u 8::v9::v10::v11::u 12::u 13::u 14::u 15::u 16::u 17::u 18::u 19::u 20::u 21::u 22::u 23::u 24::u 25::u 26::u 27::u 28::u 29::u 30::u 31::u 32::u 33::u 34::u 35::u 36::u 37::u 38::u 39::u 40::u 41::u 42::u 43::u 44::u 45::u 46::u 47::u 48::u 49::u 50::u 51::u 52::u 53::u 54::u 55::u 56::u 57::u 58::u 59::u 60::u 61::u 62::u 63::u 64::u 65::u 66::u 67::u 68::u 69::u 70::u 71::u 72::u 73::u 74::u 75::u 76::u 77::u 78::u 79::u 80::u 81::u 82::u 83::u 84::u 85::u 86::u 87::u 88::u 89::[]).toArray,defers:=[]}:=by
 refine⟨λk=>a.tmps.getD k undef,?_⟩;obtain⟨t,df⟩:=a;obtain⟨h1,hz,e0,e4,e9,e10,e11⟩:=h;have h2:=arr90 t hz;simp only at h1 e0 e4 e9 e10 e11;rw[h1]
 congr 1
 rw[e0,e4,e9,e10,e11]at h2;exact h2
theorem lit0 {a:Act} (h1:a.defers=[]) (hz:a.tmps.size=90):∃u:Nat->Value,a={tmps:=(u 0::u 1::u 2::u 3::u 4::u 5::u 6::u 7::u 8::u 9::u 10::u 11::u 12::u 13::u 14::u 15::u 16::u 17::u 18::u 19::u 20::u 21::u 22::u 23::u 24::u 25::u 26::u 27::u 28::u 29::u 30::u 31::u 32::u 33::u 34::u 35::u 36::u 37::u 38::u 39::u 40::u 41::u 42::u 43::u 44::u 45::u 46::u 47::u 48::u 49::u 50::u 51::u 52::u 53::u 54::u 55::u 56::u 57::u 58::u 59::u 60::u 61::u 62::u 63::u 64::u 65::u 66::u 67::u 68::u 69::u 70::u 71::u 72::u 73::u 74::u 75::u 76::u 77::u 78::u 79::u 80::u 81::u 82::u 83::u 84::u 85::u 86::u 87::u 88::u 89::[]).toArray,defers:=[]}:=by
 refine⟨λk=>a.tmps.getD k undef,?_⟩;obtain⟨t,df⟩:=a;have h2:=arr90 t hz;simp only at h1;rw[h1]
 congr 1
theorem w64_succ (i:Nat) (h:i<1000000000000):wrap64 ((i:Int)+1)=((i+1:Nat):Int):=by unfold wrap64;omega
theorem i64_succ (i:Nat) (h:i<1000000000000):IntKind.i64.wrap ((i:Int)+1)=((i+1:Nat):Int):=by rw[IntKind.wrap_i64];omega
theorem ib_of {i n r:Nat} (h:i+(r+1)=8*n) (hn:n<=100000):i<1000000000000/\8*n-r=i+1:=by omega
theorem and_u8 (a:Nat) (ha:a<256):bits .and .u8 (a:Int) 1=((a % 2:Nat):Int):=by
 show IntKind.u8.wrap ((BitVec.ofInt 8 (a:Int)&&& BitVec.ofInt 8 1).toNat:Int)=_;have h1:(BitVec.ofInt 8 (a:Int)).toNat=a:=by rw[BitVec.ofInt_natCast,BitVec.toNat_ofNat];exact Nat.mod_eq_of_lt (by omega)
 have h2:(BitVec.ofInt 8 1).toNat=1:=rfl;rw[BitVec.toNat_and,h1,h2,Nat.and_one_is_mod];have h3:a % 2<2:=Nat.mod_lt _ (by omega);generalize a % 2=y at*
 simp[IntKind.wrap,IntKind.bits,IntKind.signed];omega
theorem or_u32 (c b:Nat) (hc:c<2147483648) (hb:b<2):bits .or .u32 ((2*c:Nat):Int) (b:Int)=((2*c+b:Nat):Int):=by
 show IntKind.u32.wrap ((BitVec.ofInt 32 ((2*c:Nat):Int)|||BitVec.ofInt 32 (b:Int)).toNat:Int)=_;have h1:(BitVec.ofInt 32 ((2*c:Nat):Int)).toNat=2*c:=by rw[BitVec.ofInt_natCast,BitVec.toNat_ofNat];exact Nat.mod_eq_of_lt (by omega)
 have h2:(BitVec.ofInt 32 (b:Int)).toNat=b:=by rw[BitVec.ofInt_natCast,BitVec.toNat_ofNat];exact Nat.mod_eq_of_lt (by omega)
 have h3:2*c|||b=2*c+b:=by
  have:=Nat.shiftLeft_add_eq_or_of_lt (i:=1) (b:=b) (by omega) c;rw[Nat.shiftLeft_eq]at this;rw[show 2*c=c*2^1 by omega];exact this.symm
 rw[BitVec.toNat_or,h1,h2,h3];simp[IntKind.wrap,IntKind.bits,IntKind.signed];omega
theorem bit_off (code x d:Nat) (hc:code<1073741824) (hx:x<256) (bt:Bool) (hb:bt.toNat=x/2^d % 2):
 bits .or .u32 ((code:Int)*2 % 4294967296) (bits .and .u8 ((x:Int)/2^d) 1 % 4294967296)=((2*code+bt.toNat:Nat):Int):=by
 have h0:((x:Int)/2^d)=((x/2^d:Nat):Int):=by
  rw[Int.natCast_ediv]
  congr 1
 have h1:x/2^d<256:=Nat.lt_of_le_of_lt (Nat.div_le_self _ _) hx;rw[h0,and_u8 _ h1,<-hb];have h2:bt.toNat<2:=Bool.toNat_lt bt;have h3:((bt.toNat:Nat):Int) % 4294967296=((bt.toNat:Nat):Int):=by omega
 have h4:(code:Int)*2 % 4294967296=((2*code:Nat):Int):=by omega
 rw[h3,h4,or_u32 code _ (by omega) h2]
theorem bl_at:∀(n c i:Nat),i<n->(bl n c)[i]?=some (c.testBit (n-1-i))
 |0,c,i,h=>by omega
 |n+1,c,0,h=>by simp[bl]
 |n+1,c,i+1,h=>by
  rw[bl,List.getElem?_cons_succ,bl_at n c i (by omega)]
  congr 2
  omega
theorem bl_len:∀(n c:Nat),(bl n c).length=n
 |0,c=>rfl
 |n+1,c=>by rw[bl,List.length_cons,bl_len n c]
theorem unpack_len:∀l:List UInt8,(unpack l).length=8*l.length
 |[]=>rfl
 |x::l=>by
  have h:=unpack_len l;unfold unpack at*
  rw[List.flatMap_cons,List.length_append,h,bb,bl_len,List.length_cons];omega
theorem unpack_at:∀(l:List UInt8) (i:Nat),i<8*l.length->(unpack l)[i]?=some ((l.getD (i/8) 0).toNat.testBit (7-i % 8))
 |[],i,h=>by simp at h
 |x::l,i,h=>by
  have e:unpack (x::l)=bb x++unpack l:=List.flatMap_cons ..;rw[e];by_cases h8:i<8
  · rw[List.getElem?_append_left (by rw[bb,bl_len];exact h8),bb,bl_at 8 _ i h8]
    have:i/8=0:=by omega
    rw[this,List.getD_cons_zero]
    congr 2
    omega
  · rw[List.getElem?_append_right (by rw[bb,bl_len];omega),bb,bl_len,unpack_at l (i-8) (by simp at h;omega)]
    have h1:i/8=(i-8)/8+1:=by omega
    have h2:(i-8) % 8=i % 8:=by omega
    rw[h1,List.getD_cons_succ,h2]
structure MM (w W:World) (gm ga code nb:Nat) (out:List Nat) (ov:Value):Prop where
 km:KM Tryz.prog 324 W gm 257 (kf 257)
 at_:Blk W ga 324 #[.int .u32 (code:Nat),.int .i64 (nb:Nat)]
 ow:Ow W w.heap.size 5 ov out.length (out.map UInt8.ofNat)
 low:Below w.heap.size w W
 gm1:w.heap.size<=gm
 ga1:w.heap.size<=ga
 hne:gm≠ga
 om:∀g,ov.ownBlock=some g->g≠gm/\g≠ga
structure HP (l:List UInt8) (n code nb:Nat) (rest:List Bool) (out:List Nat):Prop where
 cb:code<2^nb
 nb30:nb<30
 len:rest.length<=8*n
 tail:(unpack l).drop (8*n-rest.length)=rest
 goes:(dec code nb rest).map (out++·)=dec 0 0 (unpack l)
 few:out.length+rest.length<=8*n
section
variable {w W W':World} {gm ga code nb:Nat} {out:List Nat} {ov:Value}
theorem MM.put2 (h:MM w W gm ga code nb out ov) (c' n':Nat):MM w ((W.setCell ⟨ga,0,none⟩ (.int .u32 (c':Nat))).setCell ⟨ga,1,none⟩ (.int .i64 (n':Nat))) gm ga c' n' out ov:=by
 have hg:W.grownBy ((W.setCell ⟨ga,0,none⟩ (.int .u32 (c':Nat))).setCell ⟨ga,1,none⟩ (.int .i64 (n':Nat))) (some ga):=
  grown_setCell (grown_setCell (World.grownBy.refl W (some ga)) 0 _) 1 _
 refine⟨h.km.kept hg (by simp[h.hne]),?_,h.ow.grown hg (.inr λe=>(h.om ga e).2 rfl),h.low.grown hg h.low.size (λj e=>by injection e with e;have:=h.ga1;omega),h.gm1,h.ga1,h.hne,h.om⟩;have h1:=(h.at_.put 0 (.int .u32 (c':Nat))).put 1 (.int .i64 (n':Nat));simp only[List.setIfInBounds_toArray,List.set_cons_zero,List.set_cons_succ]at h1;exact h1
theorem MM.drew (h:MM w W gm ga code nb out ov):MM w W.drew gm ga code nb out ov:=⟨h.km.kept (grown_drewN (World.grownBy.refl W none) 1) (by simp),h.at_,h.ow,bdN h.low 1,h.gm1,h.ga1,h.hne,h.om⟩
theorem MM.alloc (h:MM w W gm ga code nb out ov) (o:Obj):MM w (W.alloc o) gm ga code nb out ov:=⟨h.km.alloc o,h.at_.alloc o,h.ow.alloc o,h.low.alloc h.low.size o,h.gm1,h.ga1,h.hne,h.om⟩
theorem MM.app (h:MM w W gm ga code nb out ov) {v:Value} {x:Nat} (ho:Ow W' w.heap.size 5 v (out.length+1) (out.map UInt8.ofNat++[UInt8.ofNat x])) (hg:W.grownBy W' ov.ownBlock) (hv:v.ownBlock=ov.ownBlock\/v.ownBlock=some W.heap.size):MM w W' gm ga code nb (out++[x]) v:=by
 have h1:=h.km.lt;have h2:=h.at_.lt;refine⟨h.km.kept hg (λe=>(h.om gm e.symm).1 rfl),h.at_.grown hg (λe=>(h.om ga e.symm).2 rfl),?_,h.low.grown hg h.low.size (λj e=>(h.ow.lt e).2),h.gm1,h.ga1,h.hne,λg e=>?_⟩
 · rw[List.map_append,List.length_append]
   exact ho
 · rcases hv with hv|hv
   · exact h.om g (hv▸e)
   · rw[hv]at e
     injection e with e
     omega
end
section
variable {l:List UInt8} {n code nb:Nat} {bt:Bool} {rest:List Bool} {out:List Nat}
theorem HP.tail1 (h:HP l n code nb (bt::rest) out):(unpack l).drop (8*n-rest.length)=rest:=by
 have h1:=congrArg (List.drop 1) h.tail;rw[List.drop_drop]at h1;have h2:=h.len;simp only[List.length_cons]at h1 h2;rw[show 8*n-(rest.length+1)+1=8*n-rest.length by omega]at h1;exact h1
theorem bt_lt {c n:Nat} (bt:Bool) (h:c<2^n):2*c+bt.toNat<2^(n+1):=by
 have:=Bool.toNat_lt bt;rw[Nat.pow_succ];omega
theorem HP.miss (h:HP l n code nb (bt::rest) out) (hk:Hf.look (2*code+bt.toNat) (nb+1)=none) (hn:nb+1<30):HP l n (2*code+bt.toNat) (nb+1) rest out:=by
 have h1:=h.goes;have h2:Nat.blt (nb+1) 30=true:=Nat.ble_eq_true_of_le hn;rw[dec,hk]at h1;simp only[h2,cond_true]at h1;exact⟨bt_lt bt h.cb,hn,by have:=h.len;simp at this;omega,h.tail1,h1,by have:=h.few;simp at this;omega⟩
theorem HP.long (h:HP l n code nb (bt::rest) out) (hk:Hf.look (2*code+bt.toNat) (nb+1)=none) (hn:¬nb+1<30):Hk.decH l=none:=by
 have h1:=h.goes;have h2:Nat.blt (nb+1) 30=false:=by
  cases hq:Nat.blt (nb+1) 30 with
  |false=>rfl
  |true=>exact absurd (Nat.le_of_ble_eq_true hq) hn
 rw[dec,hk]at h1;simp only[h2,cond_false,Option.map_none]at h1;unfold Hk.decH;rw[<-h1]
 rfl
theorem HP.eos (h:HP l n code nb (bt::rest) out) (hk:Hf.look (2*code+bt.toNat) (nb+1)=some 256):Hk.decH l=none:=by
 have h1:=h.goes;rw[dec,hk]at h1;simp only[show Nat.beq 256 256=true from rfl,cond_true,Option.map_none]at h1;unfold Hk.decH;rw[<-h1]
 rfl
theorem HP.hit (h:HP l n code nb (bt::rest) out) {s:Nat} (hk:Hf.look (2*code+bt.toNat) (nb+1)=some s) (hs:s≠256):HP l n 0 0 rest (out++[s]):=by
 have h1:=h.goes;have h6:Nat.beq s 256=false:=by
  cases hq:Nat.beq s 256 with
  |false=>rfl
  |true=>exact absurd (Nat.eq_of_beq_eq_true hq) hs
 rw[dec,hk]at h1;simp only[h6,cond_false,Option.map_map]at h1;refine⟨by decide,by decide,by have:=h.len;simp at this;omega,h.tail1,?_,by have:=h.few;simp at this ⊢;omega⟩;rw[<-h1]
 congr 1
 funext x
 simp
theorem HP.ends (h:HP l n code nb [] out) (hb:nb<8) (hc:code=2^nb-1):Hk.decH l=some (out.map UInt8.ofNat):=by
 have h1:=h.goes;have h2:Nat.blt nb 8=true:=Nat.ble_eq_true_of_le hb;have h3:Nat.beq code (2^nb-1)=true:=by rw[hc];exact Nat.beq_refl _
 rw[dec,h2,h3]at h1;unfold Hk.decH;rw[<-h1];simp
theorem HP.bad (h:HP l n code nb [] out) (hb:¬(nb<8/\code=2^nb-1)):Hk.decH l=none:=by
 have h1:=h.goes;have h2:(Nat.blt nb 8&&Nat.beq code (2^nb-1))=false:=by
  rw[Bool.eq_false_iff];intro h;rw[Bool.and_eq_true]at h;exact hb ⟨Nat.le_of_ble_eq_true h.1,Nat.eq_of_beq_eq_true h.2⟩
 rw[dec,h2]at h1;unfold Hk.decH;rw[<-h1]
 rfl
end
structure HJ (w:World) (l:List UInt8) (A:Option Addr) (n c:Nat) (a:Act) (W:World) (gm ga code nb:Nat) (rest:List Bool) (out:List Nat) (ov:Value):Prop where
 ha:HA a (.slice A n c) (.map (some gm)) ov (.pointer (some ⟨ga,0,none⟩)) (.int .i64 (8*n-rest.length:Nat))
 m:MM w W gm ga code nb out ov
 p:HP l n code nb rest out
def HL (w:World) (l:List UInt8) (A:Option Addr) (n c:Nat) (lb:Nat) (a:Act) (W:World):Prop:=
 (lb=1/\∃gm ga code nb rest out ov,HJ w l A n c a W gm ga code nb rest out ov)\/(lb=0/\∃gm ga code nb out ov,HJ w l A n c a W gm ga code nb [] out ov)\/
 (lb=2/\a.defers=[]/\a.tmps.size=90/\Hk.decH l=none/\Below w.heap.size w W)
def muL (n lb:Nat) (a:Act):Nat:=if lb=1 then 2+(8*n-(intOf (a.tmps.getD 11 undef)).toNat)else if lb=0 then 1 else 0
def HdPost (w:World) (l:List UInt8) (ev:Value) (e:Ending) (w':World):Prop:=
 Below w.heap.size w w'/\((∃s,Hk.decH l=some s/\e= .returned (.tuple #[.string ⟨s.toArray⟩,.nilIface]))\/(Hk.decH l=none/\e= .returned (.tuple #[.string ⟨#[]⟩,ev])))
theorem hdec_any (A:Option Addr) (n c B:Nat) (l:List UInt8) (ev:Value) (w:World) (hr:Rd w B A n l) (hB:B<=w.heap.size) (hc:n<=c) (hn:n<=100000) (he:w.cell? ⟨16,0,none⟩=some ev) (hg:16<w.heap.size):
 Calls Tryz.prog 275 #[.slice A n c] w (HdPost w l ev):=by
 have HD:=λW=>run_mkMap (P:=Tryz.prog) 322 W;have H2:=hid (KM.made Tryz.prog 324 w);have H3:=hid ((Below.refl w.heap.size w).alloc (Nat.le_refl _) (.map #[] 0));have HC:=hid (λW=>hcodes_any W);go_enter Tryz.func275,Tryz.ntmps275;go_wp2_with fail;refine wp_scope_many (HL w l A n c) (λlb a _=>muL n lb a) ?_ ?_ ?_
 · rintro lb a W (⟨rfl,_⟩|⟨rfl,_⟩|⟨rfl,_⟩)<;>exact⟨_,rfl⟩
 · intro hL
   go_upto_region 2 with fail;generalize w.alloc (.map #[] 0)=W0 at*
   go_wp2_with (first
    |(go_at_call 214
      with_reducible refine Calls.mono (HC.out _) ?_
      rintro e w1 ⟨v,rfl,hv,hb⟩;have HV:=hid hv;have Hg:=hid (H3.out.trans (hb.mono H3.out.size));have h4:=hid (H2.out.below hb H2.out.lt);clear hv hb)
    |fail)
   go_loopw [16] (λt wr=>∃k:Nat,k<=257/\t= .int .i64 (k:Int)/\Hid (KM Tryz.prog 324 wr w.heap.size k (kf k)/\Below w.heap.size w wr)) (λt _=>257-(intOf t).toNat)
   case atStart=>exact⟨0,by omega,rfl,hid ⟨h4.out.same (λv=>by rw[kf,dif_neg];rintro⟨s,hs,_⟩;omega),Hg.out⟩⟩
   case round=>
    obtain⟨k,hk,rfl,hh⟩:=hrel;by_cases hH:k<257
    · have HF:=idx_cod HV.out hH
      have Hh:=hid (λW=>hbits_any k hH W);have hY:=sz_in hH;have hI:=nx_le (b:=sz k) (s:=k) (by omega);rw[<-cd_nx hH]at hI;obtain⟨kl,hD⟩:=word_key (cd k) (sz k) (by omega) (by omega);have HK:=hid hD;have HN:=hid (show k<maxLen by simp only[maxLen];omega);have Hi:=hid (kf_at (k:=k+1) (s:=k) (by omega) (by omega));have Hj:=hid (λ(v:Value) (h:v≠wd (cd k) (sz k))=>kf_other v hH h);have HG:wrap64 ((k:Int)+1)=((k+1:Nat):Int):=by unfold wrap64;omega
      have HH:(k:Int)<257:=by omega
      clear hY hI hD;generalize cd k=x0 at*
      generalize sz k=x1 at*
      go_wp2_with (first
       |(go_at_call 213
         with_reducible refine Calls.mono (Hh.out _) ?_
         rintro e w2 ⟨rfl,hw⟩;subst w2)
       |(refine wpList_kput _ rfl (.tmp 25) (.tmp 28) (.tmp 29) 322 (.inr rfl) Tryz.underlying322 word_keyed w.heap.size k (kf k) rfl hh.out.1 HN.out (wd x0 x1) kl HK.out rfl (.int .i64 (k:Nat)) rfl (kf (k+1)) Hi.out Hj.out ?_
         intro w3 hm hg;have hf:=hid hm;have Hl:=hid (hh.out.2.grown hg hh.out.2.size (λj e=>by injection e with e;omega));clear hm hg)
       |fail)
      go_roundw
      case rel=>exact⟨k+1,by omega,by go_num,hid ⟨hf.out,Hl.out⟩⟩
      case measure=>simp[intOf];omega
    · obtain rfl:k=257:=by omega
      have H4:=hid hh.out.1;have hR:=hid hh.out.2;clear hh;go_wp2_with fail;go_step3;rename_i hK;refine hK _ _ (hL 1 _ rfl _ _ ?_);have H5:(unpack l).length=8*n:=by rw[unpack_len,hr.1]
      have HO:=H4.out.lt;refine .inl ⟨rfl,w.heap.size,wr.heap.size,0,0,unpack l,[],.slice none 0 0,⟨rfl,rfl,rfl,rfl,rfl,rfl,?_⟩,⟨H4.out.alloc _,Blk.new wr _ _,⟨rfl,.inl ⟨rfl,rfl⟩⟩,hR.out.alloc hR.out.size _,Nat.le_refl _,hR.out.size,by omega,(λg e=>by cases e)⟩,⟨by decide,by decide,by omega,?_,?_,by simp;omega⟩⟩
      · show Value.int .i64 0=_
        rw[H5,Nat.sub_self];rfl
      · rw[H5,Nat.sub_self];rfl
      · cases dec 0 0 (unpack l)<;>simp
 · rintro lb r hl a W (⟨rfl,gm,ga,code,nb,rest,out,ov,hj⟩|⟨rfl,gm,ga,code,nb,out,ov,hj⟩|⟨rfl,hd,hz,h3,ht⟩)
   · injection hl with hl
     injection hl with _ hl
     subst hl;obtain⟨u,rfl⟩:=hj.ha.lit;have hE:=hid hj;have hS:=hr.below (hj.m.low.mono hB);obtain⟨i,hi⟩:∃i,8*n-rest.length=i:=⟨_,rfl⟩;have hJ:=hj.p.len;rw[hi];cases rest with
     |nil=>
      have h8:((i:Int)==8*(n:Int))=true:=by simp at hi;simp;omega
      have hz:=hE.out;clear hj hS;go_wp2;go_step3;refine⟨.inr (.inl ⟨rfl,gm,ga,code,nb,out,ov,⟨⟨rfl,rfl,rfl,rfl,rfl,rfl,?_⟩,hz.m,hz.p⟩⟩),?_⟩
      · rw[hi];rfl
      · simp[muL];omega
     |cons bt rest=>
      have hM:rest.length+1<=8*n:=hJ;have hN:i+(rest.length+1)=8*n:=by rw[<-hi];simp;omega
      have h8:((i:Int)==8*(n:Int))=false:=by simp;omega
      obtain⟨q,hq⟩:∃q,i/8=q:=⟨_,rfl⟩;obtain⟨r,hO⟩:∃r,i % 8=r:=⟨_,rfl⟩;have hT:q<n:=by omega
      obtain⟨ad,hA,HQ,hcell⟩:=hS.at_ hT;subst hA;have H7:bt=(l.getD q 0).toNat.testBit (7-r):=by
       have h1:=unpack_at l i (by rw[hr.1];omega);rw[hq,hO]at h1;have h2:=congrArg (λz=>z[0]?) hj.p.tail;simp only[List.getElem?_drop,hi,Nat.add_zero,h1,List.getElem?_cons_zero]at h2;injection h2 with h2
       exact h2.symm
      have H8:bt.toNat=(l.getD q 0).toNat/2^(7-r) % 2:=by rw[H7,Nat.toNat_testBit]
      have Hm:=hid H8;have Hn:=hid (show(l.getD q 0).toNat<256 from(l.getD q 0).toNat_lt);generalize (l.getD q 0).toNat=x at*
      have g0:W.cell? ⟨ga,0,none⟩=some (.int .u32 (code:Nat)):=hj.m.at_.cell 0;have g1:W.cell? ⟨ga,1,none⟩=some (.int .i64 (nb:Nat)):=hj.m.at_.cell 1;have f0:=hj.m.at_.frozen 0;have f1:=hj.m.at_.frozen 1;have HR:=hj.m.at_.lt;have hZ:((i:Int)).tdiv 8=(q:Int):=by rw[<-hq];rfl
      have H0:((i:Int)).tmod 8=(r:Int):=by rw[<-hO];rfl
      have Ho:(q:Int)<(n:Int):=by omega
      have Hp:wrap64 (7-(r:Int))=((7-r:Nat):Int):=by unfold wrap64;omega
      clear hj hS H8 H7 hJ hM;go_upto_region 12 with fail;go_region;all_goals
       have hv:=bit_off code x (7-r) (by have:=hE.out.p.cb;have:=hE.out.p.nb30;have h:=Nat.pow_le_pow_right (n:=2) (by omega) (show nb<=29 by omega);have:(2:Nat)^29=536870912:=rfl;omega) Hn.out bt Hm.out;have hw:wrap64 ((nb:Int)+1)=((nb+1:Nat):Int):=by have:=hE.out.p.nb30;unfold wrap64;omega
       rw[hv,hw];have h4:=hid (hE.out.m.put2 (2*code+bt.toNat) (nb+1)).drew;have h5:=hid hE.out.p;clear hv hw g0 g1 f0 f1 hcell hZ H0 Ho Hp;obtain⟨c1,hP⟩:∃c1,2*code+bt.toNat=c1:=⟨_,rfl⟩;obtain⟨n1,hU⟩:∃n1,nb+1=n1:=⟨_,rfl⟩;have h6:=hid (And.intro hP hU);rw[hP,hU]at h4 ⊢;have ho:c1<4294967296:=by have h0:=bt_lt bt h5.out.cb;rw[hP]at h0;have h:=Nat.pow_le_pow_right (n:=2) (by omega) (show nb+1<=30 by have:=h5.out.nb30;omega);have:(2:Nat)^30=1073741824:=rfl;omega
       have hu:n1<=1000:=by have:=h5.out.nb30;omega
       obtain⟨kl,hD⟩:=word_key c1 n1 ho hu;clear hP hU;generalize (((W.setCell ⟨ga,0,none⟩ (.int .u32 (c1:Nat))).setCell ⟨ga,1,none⟩ (.int .i64 (n1:Nat)))).drew=W1 at*
       have hF:=h4.out.km.look_ok Tryz.underlying322 word_keyed (z:=.int .i64 0) (by kernel_rfl) hD;rw[kf_look]at hF;simp only[wd]at hF;have Hq:=hid (show W1.cell? ⟨16,0,none⟩=some ev from(World.cell?_of_block (a:=⟨16,0,none⟩) (h4.out.low.block _ hg)).trans he);have q0:W1.cell? ⟨ga,0,none⟩=some (.int .u32 (c1:Nat)):=h4.out.at_.cell 0;have q1:W1.cell? ⟨ga,1,none⟩=some (.int .i64 (n1:Nat)):=h4.out.at_.cell 1;have hV:=(ib_of hN hn).1;have HT:=w64_succ i hV;have HU:=i64_succ i hV;clear hV;have HI:=hid (ib_of hN hn).2;cases hk:Hf.look c1 n1 with
       |none=>
        rw[hk]at hF;simp only[Option.map_none,Option.getD_none,Option.isSome_none]at hF;have HK:=hid hk;clear hk hD ho hu hN h8 hT hq hO hi;by_cases H9:n1<30
        · have H1:(n1:Int)<30:=by omega
          go_wp2_with fail;go_step3;have hQ:=h5.out.miss (by rw[h6.out.1,h6.out.2];exact HK.out) (by rw[h6.out.2];exact H9);rw[h6.out.1,h6.out.2]at hQ;refine⟨.inl ⟨rfl,gm,ga,c1,n1,rest,out,ov,⟨⟨rfl,rfl,rfl,rfl,rfl,rfl,?_⟩,h4.out,hQ⟩⟩,?_⟩
          · rw[HI.out];rfl
          · simp[muL,intOf];have:=HI.out;have:=h5.out.len;simp at this;omega
        · have H1:¬(n1:Int)<30:=by omega
          have h3:=h5.out.long (by rw[h6.out.1,h6.out.2];exact HK.out) (by rw[h6.out.2];exact H9);have h7:=hid h3;have e1:=Hq.out;clear h3;go_wp2_with fail;apply wp_label;go_wp2_with fail;go_quiet (fail);go_wp2_with fail;go_ret2;exact⟨bdN h4.out.low _,.inr ⟨h7.out,rfl⟩⟩
       |some s=>
        rw[hk]at hF;simp only[Option.map_some,Option.getD_some,Option.isSome_some]at hF;have HK:=hid hk;have HS:=hid (look_is hk).1;clear hk hD ho hu hN h8 hT hq hO hi;by_cases hC:s=256
        · subst hC
          have h3:=h5.out.eos (by rw[h6.out.1,h6.out.2];exact HK.out);have h7:=hid h3;clear h3;go_wp2_with fail;go_step3;exact⟨.inr (.inr ⟨rfl,rfl,rfl,h7.out,h4.out.low⟩),by simp[muL];omega⟩
        · have hs:s<256:=by have:=HS.out;omega
          have HW:((s:Int)==256)=false:=by simp;omega
          have HX:¬(s:Int)=256:=by omega
          have HY:IntKind.u8.wrap (s:Int)=(s:Int):=by simp[IntKind.wrap,IntKind.bits,IntKind.signed];omega
          have Hs:=hid (show(s:Int)=((UInt8.ofNat s).toNat:Int)by rw[Hk.toNat_of s hs]);have Ht:=hid hC;clear hs hC;obtain⟨Ao,co,hW,_,_⟩:=h4.out.ow.form;subst hW;have hX:=hid (h4.out.alloc (.cells #[.int .u8 (s:Int)] 5));have Hu:=hid (Rd.one W1 (s:Int) (UInt8.ofNat s) 5 Hs.out);have Hv:=hid (show out.length+1<=140737488355328 by have:=h5.out.few;simp at this;omega);go_wp2_with (first
           |(at_builtin
             refine wpList_app_any _ byteP rfl (.tmp 66) (.tmp 69) rfl w.heap.size (.slice Ao out.length co) out.length (out.map UInt8.ofNat) rfl hX.out.ow (W1.heap.size+1) (some ⟨W1.heap.size,0,none⟩) 1 1 [UInt8.ofNat s] rfl Hu.out Hv.out hX.out.low.size ?_;intro A3 c3 w3 Ha Hb Hc _ _;have hf:=hid (hX.out.app Ha Hb Hc);clear Ha Hb Hc q0 q1;have q0:w3.cell? ⟨ga,0,none⟩=some (.int .u32 (c1:Nat)):=hf.out.at_.cell 0;have q1:w3.cell? ⟨ga,1,none⟩=some (.int .i64 (n1:Nat)):=hf.out.at_.cell 1;have p0:=hf.out.at_.frozen 0;have p1:=hf.out.at_.frozen 1;have HB:=hf.out.at_.lt)
           |fail)
          go_step3;have hQ:=h5.out.hit (by rw[h6.out.1,h6.out.2];exact HK.out) Ht.out;have Hx:=hf.out.put2 0 0;refine⟨.inl ⟨rfl,gm,ga,0,0,rest,out++[s],.slice A3 (out.length+1) c3,⟨⟨rfl,rfl,rfl,rfl,rfl,rfl,?_⟩,Hx,hQ⟩⟩,?_⟩
          · rw[HI.out];rfl
          · simp[muL,intOf];have:=HI.out;have:=h5.out.len;simp at this;omega
   · injection hl with hl
     injection hl with _ hl
     subst hl;obtain⟨u,rfl⟩:=hj.ha.lit;have h4:=hid hj.m;have h5:=hid hj.p;have q0:W.cell? ⟨ga,0,none⟩=some (.int .u32 (code:Nat)):=hj.m.at_.cell 0;have q1:W.cell? ⟨ga,1,none⟩=some (.int .i64 (nb:Nat)):=hj.m.at_.cell 1;obtain⟨Ao,co,hW,_,_,He⟩:=hj.m.ow.form;have HZ:=λk=>run_str (P:=Tryz.prog) (c:=co) 22 9 5 Tryz.underlying22 Tryz.underlying5 Tryz.underlying9 (He.drewN k);subst hW;have ho:=hj.p.cb;clear hj He;by_cases h8:nb<8
     · by_cases hG:code=2^nb-1
       · have HE:=hid (h5.out.ends h8 hG)
         have:nb=0\/nb=1\/nb=2\/nb=3\/nb=4\/nb=5\/nb=6\/nb=7:=by omega
         subst hG;rcases this with rfl|rfl|rfl|rfl|rfl|rfl|rfl|rfl
         all_goals
          clear h8 ho;go_wp2_with fail;go_quiet (fail);go_wp2_with fail;go_ret2;exact⟨bdN h4.out.low _,.inl ⟨_,HE.out,rfl⟩⟩
       · have h3:=h5.out.bad (λh=>hG h.2)
         have h7:=hid h3;have:nb=0\/nb=1\/nb=2\/nb=3\/nb=4\/nb=5\/nb=6\/nb=7:=by omega
         clear h3;rcases this with rfl|rfl|rfl|rfl|rfl|rfl|rfl|rfl
         · exact absurd (show code=0 by have:=h5.out.cb;omega) hG
         all_goals
          simp only[Nat.reducePow,Nat.reduceSub]at hG;clear h8 ho;have g2:decide (code=_)=false:=decide_eq_false hG;go_wp2_with fail;go_quiet (fail);go_wp2_with fail;go_step3;exact⟨.inr (.inr ⟨rfl,rfl,rfl,h7.out,bdN h4.out.low _⟩),by simp[muL]⟩
     · have h3:=h5.out.bad (λh=>h8 h.1)
       have h7:=hid h3;have h9:((nb:Int)<8)=False:=by simp;omega
       have g3:(8:Int)<=(nb:Int):=by omega
       have g4:decide ((8:Int)<=(nb:Int))=true:=by simp;omega
       clear h3 h8 ho;go_wp2_with fail;go_quiet (fail);go_wp2_with fail;go_step3;exact⟨.inr (.inr ⟨rfl,rfl,rfl,h7.out,bdN h4.out.low _⟩),by simp[muL]⟩
   · injection hl with hl
     injection hl with _ hl
     subst hl;have h7:=hid h3;have Hy:=hid ht;have e1:W.cell? ⟨16,0,none⟩=some ev:=(World.cell?_of_block (a:=⟨16,0,none⟩) (ht.block _ hg)).trans he;obtain⟨u,rfl⟩:=lit0 hd hz;clear h3 ht;go_wp2_with fail;go_quiet (fail);go_wp2_with fail;go_ret2;exact⟨bdN Hy.out _,.inr ⟨h7.out,rfl⟩⟩
end Go.Proofs.YtkpppjhbmnfmkaaGreatDoor
end

section
set_option maxHeartbeats 4000000
set_option maxRecDepth 100000
namespace Go.Proofs.YtkpppjhbmnfmkaaGreatDoor
open Lib (hid)
open Go.RowKit Go.Own Go.Own.Fr
attribute [local go_sem] Oper.semAt_some
theorem arr66 (t:Array Value) (h:t.size=66):t=(t.getD 0 undef::t.getD 1 undef::t.getD 2 undef::t.getD 3 undef::t.getD 4 undef::t.getD 5 undef::t.getD 6 undef::t.getD 7 undef::t.getD 8 undef::t.getD 9 undef::t.getD 10 undef::t.getD 11 undef::t.getD 12 undef::t.getD 13 undef::t.getD 14 undef::t.getD 15 undef::t.getD 16 undef::t.getD 17 undef::t.getD 18 undef::t.getD 19 undef::t.getD 20 undef::t.getD 21 undef::t.getD 22 undef::t.getD 23 undef::t.getD 24 undef::t.getD 25 undef::t.getD 26 undef::t.getD 27 undef::t.getD 28 undef::t.getD 29 undef::t.getD 30 undef::t.getD 31 undef::t.getD 32 undef::t.getD 33 undef::t.getD 34 undef::t.getD 35 undef::t.getD 36 undef::t.getD 37 undef::t.getD 38 undef::t.getD 39 undef::t.getD 40 undef::t.getD 41 undef::t.getD 42 undef::t.getD 43 undef::t.getD 44 undef::t.getD 45 undef::t.getD 46 undef::t.getD 47 undef::t.getD 48 undef::t.getD 49 undef::t.getD 50 undef::t.getD 51 undef::t.getD 52 undef::t.getD 53 undef::t.getD 54 undef::t.getD 55 undef::t.getD 56 undef::t.getD 57 undef::t.getD 58 undef::t.getD 59 undef::t.getD 60 undef::t.getD 61 undef::t.getD 62 undef::t.getD 63 undef::t.getD 64 undef::t.getD 65 undef::[]).toArray:=by
 exact arr_gen t 66 h
structure IA (a:Act) (v0 v8 v9:Value):Prop where
 dfr:a.defers=[]
 size:a.tmps.size=66
 s0:a.tmps.getD 0 undef=v0
 s8:a.tmps.getD 8 undef=v8
 s9:a.tmps.getD 9 undef=v9
theorem IA.lit {a:Act} {v0 v8 v9:Value} (h:IA a v0 v8 v9):∃u:Nat->Value,a={tmps:=(v0::u 1::u 2::u 3::u 4::u 5::u 6::u 7::v8::v9::u 10::u 11::u 12::u 13::u 14::u 15::u 16::u 17::u 18::u 19::u 20::u 21::u 22::u 23::u 24::u 25::u 26::u 27::u 28::u 29::u 30::u 31::u 32::u 33::u 34::u 35::u 36::u 37::u 38::u 39::u 40::u 41::u 42::u 43::u 44::u 45::u 46::u 47::u 48::u 49::u 50::u 51::u 52::u 53::u 54::u 55::u 56::u 57::u 58::u 59::u 60::u 61::u 62::u 63::u 64::u 65::[]).toArray,defers:=[]}:=by
 refine⟨λk=>a.tmps.getD k undef,?_⟩;obtain⟨t,df⟩:=a;obtain⟨h1,hz,e0,e8,e9⟩:=h;have h2:=arr66 t hz;simp only at h1 e0 e8 e9;rw[h1]
 congr 1
 rw[e0,e8,e9]at h2;exact h2
theorem lit66 {a:Act} (h1:a.defers=[]) (hz:a.tmps.size=66):∃u:Nat->Value,a={tmps:=(u 0::u 1::u 2::u 3::u 4::u 5::u 6::u 7::u 8::u 9::u 10::u 11::u 12::u 13::u 14::u 15::u 16::u 17::u 18::u 19::u 20::u 21::u 22::u 23::u 24::u 25::u 26::u 27::u 28::u 29::u 30::u 31::u 32::u 33::u 34::u 35::u 36::u 37::u 38::u 39::u 40::u 41::u 42::u 43::u 44::u 45::u 46::u 47::u 48::u 49::u 50::u 51::u 52::u 53::u 54::u 55::u 56::u 57::u 58::u 59::u 60::u 61::u 62::u 63::u 64::u 65::[]).toArray,defers:=[]}:=by
 refine⟨λk=>a.tmps.getD k undef,?_⟩;obtain⟨t,df⟩:=a;have h2:=arr66 t hz;simp only at h1;rw[h1]
 congr 1
theorem and_u8m (a:Nat) (ha:a<256):bits .and .u8 (a:Int) 127=((a % 128:Nat):Int):=by
 show IntKind.u8.wrap ((BitVec.ofInt 8 (a:Int)&&& BitVec.ofInt 8 127).toNat:Int)=_;have h1:(BitVec.ofInt 8 (a:Int)).toNat=a:=by rw[BitVec.ofInt_natCast,BitVec.toNat_ofNat];exact Nat.mod_eq_of_lt (by omega)
 have h2:(BitVec.ofInt 8 127).toNat=127:=rfl;have h3:a&&& 127=a % 128:=Nat.and_two_pow_sub_one_eq_mod a 7;rw[BitVec.toNat_and,h1,h2,h3];have h4:a % 128<128:=Nat.mod_lt _ (by omega);generalize a % 128=y at*
 simp[IntKind.wrap,IntKind.bits,IntKind.signed];omega
theorem shl7 (P:Program) (y i:Nat) (hy:y<=127) (h1:1<=i) (h5:i<=5) (W:World):(Op.shift .shl .i64 (y:Int) .i64 (wrap64 (7*wrap64 ((i:Int)-1)))).run P W= .ok (.int .i64 ((y*2^(7*(i-1)):Nat):Int)) W:=by
 have e1:wrap64 ((i:Int)-1)=((i-1:Nat):Int):=by unfold wrap64;omega
 have e2:wrap64 (7*((i-1:Nat):Int))=((7*(i-1):Nat):Int):=by unfold wrap64;omega
 have hd:7*(i-1)<=28:=by omega
 rw[e1,e2];generalize 7*(i-1)=d at*
 have hp:y*2^d<=127*268435456:=Nat.mul_le_mul hy (Nat.le_trans (Nat.pow_le_pow_right (by omega) hd) (by decide));have hm:min (d:Int).toNat IntKind.i64.bits=d:=by show min (d:Int).toNat 64=d;omega
 have hc:(y:Int)*2^d=((y*2^d:Nat):Int):=by rw[Int.natCast_mul];congr 1
 unfold Op.shift;rw[if_neg (by omega)];simp only[hm,hc];show(pure (Value.int .i64 (IntKind.i64.wrap ((y*2^d:Nat):Int))):Sem Value).run P W=_;generalize y*2^d=z at*
 have hz:IntKind.i64.wrap (z:Int)=(z:Int):=by rw[IntKind.wrap_i64];omega
 rw[hz]
 rfl
theorem zbound {x acc i:Nat} (hx:x<=127) (h1:1<=i) (h5:i<=5) (ha:acc<=255*2^(7*(i-1))):acc+x*2^(7*(i-1))<=200000000000:=by
 have hp:2^(7*(i-1))<=268435456:=Nat.le_trans (Nat.pow_le_pow_right (by omega) (show 7*(i-1)<=28 by omega)) (by decide);generalize 2^(7*(i-1))=p at*
 have:=Nat.mul_le_mul hx hp;have:=Nat.mul_le_mul (Nat.le_refl 255) hp;omega
theorem accbound {y acc i:Nat} (hy:y<=127) (h1:1<=i) (ha:acc<=255*2^(7*(i-1))):acc+y*2^(7*(i-1))<=255*2^(7*(i+1-1)):=by
 have e:7*(i+1-1)=7*(i-1)+7:=by omega
 rw[e,Nat.pow_add];generalize 2^(7*(i-1))=p at*
 have:=Nat.mul_le_mul hy (Nat.le_refl p);have e2:(2:Nat)^7=128:=rfl;rw[e2];omega
theorem w64_self (i:Nat) (h:i<1000000000000):wrap64 (i:Int)=(i:Int):=by unfold wrap64;omega
theorem w64_pred (i:Nat) (h:i<1000000000000):wrap64 ((i:Int)+1-1)=(i:Int):=by unfold wrap64;omega
theorem w64_add (a z:Nat) (h:a+z<=200000000000):wrap64 ((a:Int)+(z:Int))=((a+z:Nat):Int):=by unfold wrap64;omega
theorem sub_back {a b:Nat} (h:b<=a):a-(a-b)=b:=by omega
theorem xm_sub {x:Nat} (h:¬x<128) (h2:x<256):x % 128=x-128:=by omega
theorem y_127 {x:Nat} (h2:x<256):x-128<=127:=by omega
theorem ib_big {i n:Nat} (h:i<n) (hn:n<=1000000):i<1000000000000:=by omega
theorem w64_127 {y:Nat} (h:y<=127):wrap64 (y:Int)=(y:Int):=by unfold wrap64;omega
theorem drewN_post (w:World) (k m:Nat):∃n,(w.drewN k).drewN m=w.drewN n:=⟨_,World.drewN_drewN ..⟩
def IntPost (bits:Nat) (l:List UInt8) (w:World) (e:Ending) (w':World):Prop:=
 (∃n,w'=w.drewN n)/\((∃i r,Hk.intP bits l=some (i,r)/\e= .returned (.tuple #[.int .i64 (i:Nat),.int .i64 (l.length-r.length:Nat),.nilIface]))\/(Hk.intP bits l=none/\∃a,e= .returned (.tuple #[.int .i64 0,.int .i64 0,ev a])))
def IL (bits:Nat) (l:List UInt8) (A:Option Addr) (n c:Nat) (w:World) (lb:Nat) (a:Act) (W:World):Prop:=
 (lb=1/\∃acc i:Nat,IA a (.slice A n c) (.int .i64 (acc:Nat)) (.int .i64 (i:Nat))/\1<=i/\i<=6/\i<=n/\acc<=255*2^(7*(i-1))/\Hk.intMore (6-i) (7*(i-1)) acc (l.drop i)=Hk.intP bits l/\∃k,W=w.drewN k)\/
 (lb=0/\a.defers=[]/\a.tmps.size=66/\Hk.intP bits l=none/\∃k,W=w.drewN k)
def muI (lb:Nat) (a:Act):Nat:=if lb=1 then 10-(intOf (a.tmps.getD 9 undef)).toNat else 0
theorem hint_any (bt:Nat) (A:Option Addr) (n c B:Nat) (l:List UInt8) (w:World) (hF:bt=4\/bt=5\/bt=6\/bt=7) (hr:Rd w B A n l) (hc:n<=c) (hn:n<=1000000) (hE:HpE w):
 Calls Tryz.prog 256 #[.slice A n c,.int .i64 (bt:Nat)] w (IntPost bt l w):=by
 obtain⟨el,hP⟩:=hE.long;obtain⟨ee,hQ⟩:=hE.end_;have HR:=hid hr;have hl:=hr.1;have hR:=hid (λk=>(show(w.drewN k).cell? ⟨5,0,none⟩=some (ev el)from hP));have hS:=hid (λk=>(show(w.drewN k).cell? ⟨10,0,none⟩=some (ev ee)from hQ));have HN:=hid (show n<=1000000/\n<=c/\l.length=n from⟨hn,hc,hl⟩);clear hE hr hP hQ hn hc hl;go_enter Tryz.func256,Tryz.ntmps256;go_wp2_with fail;refine wp_scope_many (IL bt l A n c w) (λlb a _=>muI lb a) ?_ ?_ ?_
 · rintro lb a W (⟨rfl,_⟩|⟨rfl,_⟩)<;>exact⟨_,rfl⟩
 · intro h9
   have hZ:=hid h9;clear h9;cases n with
   |zero=>
    have H0:l=[]:=List.eq_nil_of_length_eq_zero HN.out.2.2;subst H0;have q0:w.cell? ⟨10,0,none⟩=some (ev ee):=hS.out 0;rcases hF with rfl|rfl|rfl|rfl
    all_goals
     go_wp2_with fail;go_quiet (fail);go_wp2_with fail;go_ret3;exact⟨⟨_,rfl⟩,.inr ⟨rfl,_,rfl⟩⟩
   |succ n=>
    obtain⟨ad,hA,H1,hcell⟩:=HR.out.at_ (k:=0) (Nat.succ_pos n);subst hA;cases l with
    |nil=>have:=HN.out.2.2;simp at this
    |cons b l=>
     have hcell:w.cell? ad=some (.int .u8 (b.toNat:Int)):=hcell;have hT:b.toNat<256:=b.toNat_lt;obtain⟨x,hx⟩:∃x,b.toNat=x:=⟨_,rfl⟩;rw[hx]at hcell hT;have HX:=hid (And.intro hx hT);have h8:∀m:Nat,m<256->bits .and .i64 (x:Int) (m:Int)=((x&&& m:Nat):Int):=λm hm=>and_nat x m (by omega) (by omega);obtain⟨y,hy⟩:∃y,x % 2^bt=y:=⟨_,rfl⟩;have hU:y<=255:=by rw[<-hy];exact Nat.le_trans (Nat.mod_le _ _) (by omega)
     have hV:y<2^bt:=by rw[<-hy];exact Nat.mod_lt _ (Nat.pow_pos (by omega))
     have HY:=hid (And.intro hy hU);have hG:2^bt-1<256:=by rcases hF with rfl|rfl|rfl|rfl<;>decide
     have hH:x&&& (2^bt-1)=y:=by rw[Nat.and_two_pow_sub_one_eq_mod,hy]
     clear hx hy hU;by_cases hh:y<2^bt-1
     · have hi:Hk.intP bt (b::l)=some (y,l):=by rw[Hk.intP,HX.out.1,HY.out.1,if_pos hh]
       have HP:=hid hi;clear hi;rcases hF with rfl|rfl|rfl|rfl
       all_goals
        have ha:=h8 _ hG;rw[hH]at ha;have hj:=Int.ofNat_lt.2 hh;clear h8 hH hV hG hh;first
         |(have hb:bits .and .i64 (x:Int) 15=(y:Int):=ha;have hL:(y:Int)<15:=hj)
         |(have hb:bits .and .i64 (x:Int) 31=(y:Int):=ha;have hL:(y:Int)<31:=hj)
         |(have hb:bits .and .i64 (x:Int) 63=(y:Int):=ha;have hL:(y:Int)<63:=hj)
         |(have hb:bits .and .i64 (x:Int) 127=(y:Int):=ha;have hL:(y:Int)<127:=hj)
        clear ha hj;go_wp2_with fail;go_ret3;exact⟨⟨0,rfl⟩,.inl ⟨_,_,HP.out,by simp⟩⟩
     · have H2:y=2^bt-1:=by omega
       have hi:Hk.intP bt (b::l)=Hk.intMore 5 0 y l:=by rw[Hk.intP,HX.out.1,HY.out.1,if_neg hh]
       have HP:=hid hi;clear hi;subst H2;rcases hF with rfl|rfl|rfl|rfl
       all_goals
        have ha:=h8 _ hG;rw[hH]at ha;clear h8 hH hV hh hG;first
         |(have hb:bits .and .i64 (x:Int) 15=15:=ha)
         |(have hb:bits .and .i64 (x:Int) 31=31:=ha)
         |(have hb:bits .and .i64 (x:Int) 63=63:=ha)
         |(have hb:bits .and .i64 (x:Int) 127=127:=ha)
        clear ha;go_wp2_with fail;go_step3;rename_i hK;refine hK _ _ (hZ.out 1 _ rfl _ _ (.inl ⟨rfl,_,1,⟨rfl,rfl,rfl,rfl,rfl⟩,Nat.le_refl _,by omega,by omega,by decide,?_,0,rfl⟩));exact HP.out.symm
 · rintro lb r hl a W (⟨rfl,acc,i,hW,h1,h6,hI,hD,hg,k,rfl⟩|⟨rfl,hd,hz,h0,k,rfl⟩)
   · injection hl with hl
     injection hl with _ hl
     subst hl;obtain⟨u,rfl⟩:=hW.lit;clear hW;have HG:=hid hg;have hf:=hid hD;clear hg hD;by_cases hk:i=6
     · subst hk
       have h0:Hk.intP bt l=none:=by rw[<-HG.out];rfl
       have ho:=hid h0;clear h0 hI;go_wp2_with fail;go_step3;exact⟨.inr ⟨rfl,rfl,rfl,ho.out,k,rfl⟩,by simp[muI,intOf]⟩
     obtain⟨m,hm⟩:∃m,6-i=m+1:=⟨5-i,by omega⟩;rw[hm]at HG;by_cases hM:i=n
     · have h0:Hk.intP bt l=none:=by
        have hd:l.drop i=[]:=List.drop_eq_nil_of_le (by rw[HN.out.2.2];omega);rw[<-HG.out,hd];rfl
       have ho:=hid h0;have q0:w.cell? ⟨10,0,none⟩=some (ev ee):=hS.out 0;have hne:¬i=6:=hk;have H7:((i:Int)==6)=false:=by simp;omega
       clear h0 hI hm;subst hM;go_wp2_with fail;go_quiet (fail);go_wp2_with fail;go_ret3;exact⟨drewN_post _ _ _,.inr ⟨ho.out,_,rfl⟩⟩
     · have he:i<n:=by omega
       have h5:i<=5:=by omega
       obtain⟨ad,hA,H1,hcell⟩:=HR.out.at_ he;subst hA;have hcell:w.cell? (ad.add i)=some (.int .u8 ((l.getD i 0).toNat:Int)):=hcell;have hN:l.drop i=l.getD i 0::l.drop (i+1):=by
        have h2:i<l.length:=by rw[HN.out.2.2];exact he
        rw[List.drop_eq_getElem_cons h2]
        congr 1
        rw[List.getD,List.getElem?_eq_getElem h2];rfl
       have hq:(l.getD i 0).toNat<256:=(l.getD i 0).toNat_lt;have h4:=HG.out;rw[hN,Hk.intMore]at h4;generalize (l.getD i 0).toNat=x at*
       have ha:=and_u8m x hq;have H8:(i:Int)<(n:Int):=by omega
       have H9:((i:Int)==6)=false:=by simp;omega
       have Ha:((i:Int)==(n:Int))=false:=by simp;omega
       have HI:=hid (And.intro he hm);have hJ:=ib_big he HN.out.1;have Hb:=w64_succ i hJ;have Hc:=w64_self i hJ;have He:=w64_pred i hJ;clear hJ;by_cases hx:x<128
       · rw[if_pos hx]at h4
         have hs:x % 128=x:=Nat.mod_eq_of_lt hx;rw[hs]at ha;have ht:(l.drop (i+1)).length=l.length-(i+1):=List.length_drop;have H3:¬(128:Int)<=(x:Int):=λh=>absurd (Int.ofNat_le.1 h) (Nat.not_le.2 hx);have hO:=λW=>shl7 Tryz.prog x i (Nat.le_of_lt_succ hx) h1 h5 W;have hu:=hid (zbound (x:=x) (Nat.le_of_lt_succ hx) h1 h5 hf.out);obtain⟨z,hz⟩:∃z,x*2^(7*(i-1))=z:=⟨_,rfl⟩;rw[hz]at hO h4 hu;have hX:=hid ht;have hw:=hid (And.intro h1 (And.intro hk h6));have H4:wrap64 ((acc:Int)+(z:Int))=((acc+z:Nat):Int):=w64_add acc z hu.out;clear hz hs hq hM ht hI h1 h6 hk he hN hm h5;by_cases h7:acc+z<=2147483647
         · rw[if_pos h7]at h4
           have hC:=hid h4;have H5:((acc:Int)+(z:Int))<=2147483647:=by have h:=Int.ofNat_le.2 h7;exact h
           clear h4 h7;go_wp2_with fail;go_ret3;refine⟨⟨k,rfl⟩,.inl ⟨_,_,hC.out.symm,?_⟩⟩;rw[hX.out,sub_back (by have:=HN.out.2.2;have:=HI.out.1;omega)]
           rfl
         · rw[if_neg h7]at h4
           have hC:=hid h4;have q0:w.cell? ⟨5,0,none⟩=some (ev el):=hR.out 0;have H5:¬((acc:Int)+(z:Int))<=2147483647:=λh=>h7 (Int.ofNat_le.1 h);clear h4 h7;go_wp2_with fail;apply wp_label;go_wp2_with fail;go_quiet (fail);go_wp2_with fail;go_ret3;exact⟨drewN_post _ _ _,.inr ⟨hC.out.symm,_,rfl⟩⟩
       · rw[if_neg hx]at h4
         have hs:x % 128=x-128:=xm_sub hx hq;rw[hs]at ha;have ht:(l.drop (i+1)).length=l.length-(i+1):=List.length_drop;have H3:(128:Int)<=(x:Int):=Int.ofNat_le.2 (Nat.not_lt.1 hx);have h3:x-128<=127:=y_127 hq;obtain⟨y,hy⟩:∃y,x-128=y:=⟨_,rfl⟩;rw[hy]at ha h4 h3;have hO:=λW=>shl7 Tryz.prog y i h3 h1 h5 W;have Hg:=w64_127 h3;have hu:=hid (zbound (x:=y) h3 h1 h5 hf.out);have hY:=hid (accbound (y:=y) h3 h1 hf.out);obtain⟨z,hz⟩:∃z,y*2^(7*(i-1))=z:=⟨_,rfl⟩;rw[hz]at hO h4 hu hY;have hX:=hid ht;have hC:=hid h4;have hw:=hid (And.intro h1 (And.intro h5 he));have H4:wrap64 ((acc:Int)+(z:Int))=((acc+z:Nat):Int):=w64_add acc z hu.out;clear hz hs hq hM ht hI h1 h6 hk he hN hm h5 h4 hy h3 hx;go_wp2_with fail;try go_step3
         refine⟨.inl ⟨rfl,acc+z,i+1,⟨rfl,rfl,rfl,rfl,rfl⟩,Nat.le_add_left 1 i,Nat.succ_le_succ hw.out.2.1,hw.out.2.2,hY.out,?_,k,rfl⟩,?_⟩
         · rw[<-hC.out]
           have e1:6-(i+1)=m:=by have:=HI.out.2;omega
           have e2:7*(i+1-1)=7*(i-1)+7:=by have:=hw.out.1;omega
           rw[e1,e2]
         · simp[muI,intOf]
           have:=hw.out.2.1;omega
   · injection hl with hl
     injection hl with _ hl
     subst hl;obtain⟨u,rfl⟩:=lit66 hd hz;have ho:=hid h0;have q0:w.cell? ⟨5,0,none⟩=some (ev el):=hR.out 0;clear h0;go_wp2_with fail;go_quiet (fail);go_wp2_with fail;go_ret3;exact⟨drewN_post _ _ _,.inr ⟨ho.out,_,rfl⟩⟩
end Go.Proofs.YtkpppjhbmnfmkaaGreatDoor
end

section
set_option maxHeartbeats 4000000
set_option maxRecDepth 100000
namespace Go.Proofs.YtkpppjhbmnfmkaaGreatDoor
open Lib (hid)
open Go.RowKit Go.Own Go.Own.Fr
attribute [local go_sem] Oper.semAt_some
theorem run_sub8 {P:Program} {t e:TypeId} (hP:ByteP P t e) (A:Option Addr) (n c k u:Nat) (hk:k+u<=n) (hc:n<=c) (W:World):
 (Instr.slice t (.slice A n c) (some (.int .i64 (k:Int))) (some (.int .i64 ((k:Int)+(u:Int)))) none).run P W= .ok (.slice (if c=k then A else A.map λx=>x.add k) u (c-k)) W:=by
 obtain⟨i,hi,hz,h1,h2⟩:=hP.info;have e:((k:Int)+(u:Int)).toNat=k+u:=by omega
 have h0:=run_sliceBound (P:=P) (w:=W) .i64 (k:Int) (k+u) .sliceB (by omega) (by omega);simp only[Int.toNat_natCast]at h0;simp[Instr.slice,h0,run_underlying hP.slice,Instr.sliceBounds,run_sliceBound,sizeOf,typeInfo,hi,h1,Result.andThen,e,show(k:Int)+u<=c by omega,show(0:Int)<=(k:Int)+u by omega]
def TextPost (l:List UInt8) (w:World) (e:Ending) (w':World):Prop:=
 Below w.heap.size w w'/\((∃s r,Hk.textP l=some (s,r)/\e= .returned (.tuple #[.string ⟨s.toArray⟩,.int .i64 (l.length-r.length:Nat),.nilIface]))\/(Hk.textP l=none/\∃a,e= .returned (.tuple #[.string ⟨#[]⟩,.int .i64 0,ev a])))
theorem w64_add2 (a b:Nat) (h:a<=1000000) (k:b<=1000000):wrap64 ((a:Int)+(b:Int))=(a:Int)+(b:Int):=by unfold wrap64;omega
theorem w64_sub2 (a b:Nat) (h:a<=1000000) (k:b<=a):wrap64 ((a:Int)-(b:Int))=((a-b:Nat):Int):=by unfold wrap64;omega
theorem intP_len2 {bits:Nat} {l:List UInt8} {i:Nat} {r:List UInt8} (h:Hk.intP bits l=some (i,r)):∃at_,at_+r.length=l.length/\l.drop at_=r/\1<=at_:=by
 have more:∀(k sh n:Nat) (l:List UInt8) (m:Nat) (r:List UInt8),Hk.intMore k sh n l=some (m,r)->∃at_,at_+r.length=l.length/\l.drop at_=r:=by
  intro k
  induction k with
  |zero=>intro sh n l m r h;simp[Hk.intMore]at h
  |succ k ih=>
   intro sh n l m r h;cases l with
   |nil=>simp[Hk.intMore]at h
   |cons b l=>
    rw[Hk.intMore]at h
    split at h
    · split at h
      · injection h with h;injection h with _ h;subst h
        exact⟨1,by simp;omega,rfl⟩
      · cases h
    · obtain⟨a,h1,h2⟩:=ih _ _ _ _ _ h
      exact⟨a+1,by simp;omega,h2⟩
 cases l with
 |nil=>cases h
 |cons b l=>
  rw[Hk.intP]at h
  split at h
  · injection h with h;injection h with _ h;subst h
    exact⟨1,by simp;omega,rfl,Nat.le_refl _⟩
  · obtain⟨a,h1,h2⟩:=more _ _ _ _ _ _ h
    exact⟨a+1,by simp;omega,h2,by omega⟩
theorem hgive_err (a:Addr) (w:World):Calls Tryz.prog 242 #[ev a] w λe w'=>e= .panicked [{v:=.iface 279 (.agg #[ev a]),recovered:=false}]/\w'=w:=by
 unfold ev;go_enter Tryz.func242,Tryz.ntmps242;go_wp2;exact⟨rfl,rfl,rfl⟩
theorem htext_any (A:Option Addr) (n c B:Nat) (l:List UInt8) (w:World) (hr:Rd w B A n l) (hB:B<=w.heap.size) (hc:n<=c) (hn:n<=1000000) (hE:HpE w):
 Calls Tryz.prog 264 #[.slice A n c] w (TextPost l w):=by
 have h7:=hid (hint_any 7 A n c B l w (by omega) hr hc hn hE);obtain⟨el,hq⟩:=hE.long;obtain⟨ee,hu⟩:=hE.end_;obtain⟨eh,hL⟩:=hE.huff;have hM:=hid (λk=>(show(w.drewN k).cell? ⟨5,0,none⟩=some (ev el)from hq));have hN:=hid (λk=>(show(w.drewN k).cell? ⟨10,0,none⟩=some (ev ee)from hu));have hl:=hr.1;have HN:=hid (show n<=1000000/\n<=c/\l.length=n from⟨hn,hc,hl⟩);have HR:=hid hr;have hO:=hid hE.room;have hP:=hid hB;clear hE hq hu hn hc hl hr hB;cases hi:Hk.intP 7 l with
 |none=>
  have ht:Hk.textP l=none:=by rw[Hk.textP,hi]
  have HT:=hid ht;clear ht;go_enter Tryz.func264,Tryz.ntmps264;go_wp2_with (first
   |(go_at_call 256
     refine Calls.mono h7.out ?_;rintro e w1 ⟨⟨k1,hw⟩,hp⟩;rcases hp with⟨i,r,h6,_⟩|⟨_,a,rfl⟩
     · rw[hi]at h6;cases h6
     subst w1;unfold ev)
   |fail)
  go_ret3;exact⟨bdN (Below.refl _ _) _,.inr ⟨HT.out,a,rfl⟩⟩
 |some p=>
  obtain⟨i,r⟩:=p;obtain⟨at_,hf,hb,hh⟩:=intP_len2 hi;have hd:l.length-r.length=at_:=by omega
  have he:Hid (Calls Tryz.prog 256 #[.slice A n c,.int .i64 7] w λe w'=>(∃n,w'=w.drewN n)/\e= .returned (.tuple #[.int .i64 (i:Nat),.int .i64 (at_:Nat),.nilIface])):=hid (h7.out.mono (by
   rintro e w1 ⟨hw,hp⟩;rcases hp with⟨i2,r2,h6,rfl⟩|⟨h0,_⟩
   · rw[hi]at h6
     injection h6 with h6
     injection h6 with h1 h2
     subst h1 h2;exact⟨hw,by rw[hd]⟩
   · rw[hi]at h0;cases h0))
  have hj:r.length<=1000000:=by have:=HN.out.1;have:=HN.out.2.2;omega
  by_cases h3:16384<i
  · have ht:Hk.textP l=none:=by rw[Hk.textP,hi];simp only;rw[if_pos h3]
    have HT:=hid ht;have q0:w.cell? ⟨5,0,none⟩=some (ev el):=hM.out 0;have hQ:(16384:Int)<(i:Int):=Int.ofNat_lt.2 h3;clear ht hi hf hb hh hd h3 hj;go_enter Tryz.func264,Tryz.ntmps264;go_wp2_with (first
     |(go_at_call 256
       refine Calls.mono he.out ?_;rintro e w1 ⟨⟨k1,hw⟩,rfl⟩;subst w1)
     |fail)
    go_quiet (fail);go_wp2_with fail;go_ret3;exact⟨bdN (bdN (Below.refl _ _) _) _,.inr ⟨HT.out,_,rfl⟩⟩
  · have hQ:¬(16384:Int)<(i:Int):=λh=>h3 (Int.ofNat_lt.1 h)
    have hX:wrap64 ((n:Int)-(at_:Int))=((r.length:Nat):Int):=by
     rw[w64_sub2 n at_ HN.out.1 (by have:=HN.out.2.2;omega)]
     congr 1
     have:=HN.out.2.2;omega
    by_cases h4:r.length<i
    · have ht:Hk.textP l=none:=by rw[Hk.textP,hi];simp only;rw[if_neg h3,if_pos h4]
      have HT:=hid ht;have q0:w.cell? ⟨10,0,none⟩=some (ev ee):=hN.out 0;have hR:((r.length:Nat):Int)<(i:Int):=Int.ofNat_lt.2 h4;clear ht hi hf hb hh hd h3 hj h4;generalize r.length=rl at*
      go_enter Tryz.func264,Tryz.ntmps264;go_wp2_with (first
       |(go_at_call 256
         refine Calls.mono he.out ?_;rintro e w1 ⟨⟨k1,hw⟩,rfl⟩;subst w1)
       |fail)
      go_quiet (fail);go_wp2_with fail;go_ret3;exact⟨bdN (bdN (Below.refl _ _) _) _,.inr ⟨HT.out,_,rfl⟩⟩
    · have hR:¬((r.length:Nat):Int)<(i:Int):=λh=>h4 (Int.ofNat_lt.1 h)
      have hk:at_+i<=n:=by have:=HN.out.2.2;omega
      have hS:=run_sub8 (P:=Tryz.prog) byteP A n c at_ i hk HN.out.2.1;have h5:=HR.out.sub (k:=at_) (u:=i) (c:=c) hk HN.out.2.1;rw[hb]at h5;have h8:=w64_add2 at_ i (by have:=HN.out.1;omega) (by omega);obtain⟨A',hC⟩:∃A',(if c=at_ then A else A.map λx=>x.add at_)=A':=⟨_,rfl⟩;rw[hC]at hS h5;have hY:=λk=>run_str (P:=Tryz.prog) (c:=c-at_) 22 9 5 Tryz.underlying22 Tryz.underlying5 Tryz.underlying9 (h5.drewN k);have hm:0<n:=by omega
      obtain⟨ad,hA,hZ,hcell⟩:=HR.out.at_ (k:=0) hm;subst hA;have hcell:w.cell? ad=some (.int .u8 ((l.getD 0 0).toNat:Int)):=hcell;have ho:l.headD 0=l.getD 0 0:=by cases l<;>rfl
      have hD:(r.drop i).length=r.length-i:=List.length_drop;have h9:l.length-(r.drop i).length=at_+i:=by rw[hD];omega
      have HF:=hid h9;have hW:(0:Int)<(n:Int):=Int.ofNat_lt.2 hm;have hF:(l.getD 0 0).toNat<256:=(l.getD 0 0).toNat_lt;have hT:=hid (λk=>hdec_any A' i (c-at_) B (r.take i) (ev eh) (w.drewN k) (h5.drewN k) hP.out (by have:=HN.out.2.1;omega) (by omega) hL (Nat.lt_of_lt_of_le (by decide) hO.out));have hG:∀s,(l.getD 0 0).toNat<128/\s=r.take i\/¬(l.getD 0 0).toNat<128/\Hk.decH (r.take i)=some s->Hk.textP l=some (s,r.drop i):=λs hs=>by
       rw[Hk.textP,hi];simp only;rw[if_neg h3,if_neg h4,ho];rcases hs with⟨h1,rfl⟩|⟨h1,h2⟩
       · rw[if_pos h1]
       · rw[if_neg h1,h2]
      have hH:¬(l.getD 0 0).toNat<128->Hk.decH (r.take i)=none->Hk.textP l=none:=λh1 h2=>by
       rw[Hk.textP,hi];simp only;rw[if_neg h3,if_neg h4,ho,if_neg h1,h2]
      have hI:=hid hG;have hU:=hid hH;clear hG hH ho hD h9 hi hf hb hh hd h3 hj h4 h5 hk hm hC;generalize (l.getD 0 0).toNat=x at*
      generalize r.length=rl at*
      by_cases hx:x<128
      · have hV:¬(128:Int)<=(x:Int):=λh=>absurd (Int.ofNat_le.1 h) (Nat.not_le.2 hx)
        have HT:=hid (hI.out _ (.inl ⟨hx,rfl⟩));clear hx hF;go_enter Tryz.func264,Tryz.ntmps264;go_wp2_with (first
         |(go_at_call 256
           refine Calls.mono he.out ?_;rintro e w1 ⟨⟨k1,hw⟩,rfl⟩;subst w1)
         |fail)
        go_ret3;refine⟨bdN (Below.refl _ _) _,.inl ⟨_,_,HT.out,?_⟩⟩;rw[HF.out,h8]
        rfl
      · have hV:(128:Int)<=(x:Int):=Int.ofNat_le.2 (Nat.not_lt.1 hx)
        have HX:=hid hx;clear hx hF;go_enter Tryz.func264,Tryz.ntmps264;go_wp2_with fail;refine he.out.mono ?_;rintro e w1 ⟨⟨k1,hw⟩,rfl⟩;subst w1;go_wp2_with fail;refine(hT.out _).mono ?_;rintro e w2 ⟨hJ,hp⟩;have hK:=hid hJ;clear hJ;rcases hp with⟨s,hs,rfl⟩|⟨hs,rfl⟩
        · have HT:=hid (hI.out _ (.inr ⟨HX.out,hs⟩))
          clear hs;go_wp2_with fail;go_ret3;refine⟨(bdN (Below.refl w.heap.size w) k1).trans hK.out,.inl ⟨_,_,HT.out,?_⟩⟩;rw[HF.out];simp[h8]
        · have HT:=hid (hU.out HX.out hs)
          clear hs;unfold ev;go_wp2_with fail;go_ret3;exact⟨(bdN (Below.refl w.heap.size w) k1).trans hK.out,.inr ⟨HT.out,_,rfl⟩⟩
end Go.Proofs.YtkpppjhbmnfmkaaGreatDoor
end

section
set_option maxHeartbeats 4000000
set_option maxRecDepth 100000
namespace Go.Proofs.YtkpppjhbmnfmkaaGreatDoor
open Lib (hid)
open Go.RowKit Go.Own Go.Own.Cx
def lineL:List (List UInt8):=Hk.statL.map λp=>if p.2.isEmpty then p.1 else p.1++32::p.2
def StatA (L:List ByteArray):Prop:=L.map (·.data.toList)=lineL
theorem cut_all:lineL.map (λl=>((Lib.cut l [32]).1,(Lib.cut l [32]).2.1))=Hk.statL:=by kernel_rfl
theorem line_len:lineL.all (λl=>Nat.ble l.length 100)=true:=by kernel_rfl
theorem lineL_len:lineL.length=61:=by kernel_rfl
theorem StatA.len {L:List ByteArray} (h:StatA L):L.length=61:=by
 have:=congrArg List.length h
 rwa [List.length_map,lineL_len]at this
theorem StatA.at_ {L:List ByteArray} (h:StatA L) {j:Nat} {hd:Hd.HdrV} (hj:Hk.statH[j]?=some hd):∃s:ByteArray,L[j]?=some s/\s.size<=100/\(⟨(Lib.cut s.data.toList [32]).1.toArray⟩:ByteArray)=hd.name/\(⟨(Lib.cut s.data.toList [32]).2.1.toArray⟩:ByteArray)=hd.value/\hd.never=false/\j<61:=by
 have h4:j<61:=by
  have h1:=(List.getElem?_eq_some_iff.1 hj).1;have h2:Hk.statH.length=61:=by kernel_rfl
  omega
 have h0:j<L.length:=by rw[h.len];exact h4
 refine⟨L[j],List.getElem?_eq_getElem h0,?_,?_⟩
 · have h1:lineL[j]?=some (L[j].data.toList):=by rw[<-show L.map (·.data.toList)=lineL from h,List.getElem?_map,List.getElem?_eq_getElem h0];rfl
   have h2:=List.all_eq_true.1 line_len _ (List.mem_of_getElem? h1);have h3:=Nat.le_of_ble_eq_true h2
   simpa using h3
 · have h1:lineL[j]?=some (L[j].data.toList):=by rw[<-show L.map (·.data.toList)=lineL from h,List.getElem?_map,List.getElem?_eq_getElem h0];rfl
   have h2:Hk.statL[j]?=some ((Lib.cut (L[j].data.toList) [32]).1,(Lib.cut (L[j].data.toList) [32]).2.1):=by
    rw[<-cut_all,List.getElem?_map,h1];rfl
   rw[Hk.statH,List.getElem?_map,h2]at hj;simp only[Option.map_some,Option.some.injEq]at hj;subst hj;exact⟨rfl,rfl,rfl,h4⟩
theorem statA_of {s:ByteArray} (h1:lns s.data.toList=lineL):StatA (Lib.splitB ⟨#[10]⟩ 0 (Lib.countB s ⟨#[10]⟩) s)/\Lib.countB s ⟨#[10]⟩+1=61:=by
 obtain⟨e1,e2⟩:=lns_split s.data.toList.length s.data.toList (Nat.le_refl _);have e3:(Lib.splitB ⟨#[10]⟩ 0 (Lib.countB s ⟨#[10]⟩) s).map (·.data.toList)=lns s.data.toList:=(Lib.splitB_data _ _ _ _).trans e1;refine⟨e3.trans h1,?_⟩;rw[h1,lineL_len]at e2;exact e2
theorem standsA_any (w:World) (m:Int) (hm:w.cell? ⟨13,0,none⟩=some (.int .i64 m)):
 Calls Tryz.prog 233 #[] w λe w'=>∃L,StatA L/\e= .returned (.slice (some ⟨w.heap.size,0,none⟩) 61 61)/\w'=w.alloc (.cells (L.map Value.string).toArray 9):=by
 have HS:=hid (λ(s:ByteArray) (hs:s.size<4294967281) (h1:lns s.data.toList=lineL)=>
  (show Calls Tryz.prog 255 #[.string s,.string ⟨#[10]⟩] w λe w'=>∃L,StatA L/\e= .returned (.slice (some ⟨w.heap.size,0,none⟩) 61 61)/\w'=w.alloc (.cells (L.map Value.string).toArray 9)from by
    obtain⟨k1,k2⟩:=statA_of h1;refine(Tryz.strings_Split s ⟨#[10]⟩ m w hs hm (by decide)).mono ?_;intro e w' h;exact⟨_,k1,by rw[h.1,k2],h.2⟩))
 go_enter Tryz.func233,Tryz.ntmps233;go_wp2_with (first
  |(go_at_call 255
    refine Calls.mono (HS.out _ (of_decide_eq_true (by kernel_rfl)) (by kernel_rfl)) ?_;rintro e w1 ⟨L,hL,rfl,hw⟩;subst w1)
  |fail)
 go_ret;exact⟨L,hL,rfl,rfl⟩
theorem staticA_any (i j:Nat) (hij:i=j+1) (h:Hd.HdrV) (hi:Hk.statH[j]?=some h) (w:World) (m:Int) (hm:w.cell? ⟨13,0,none⟩=some (.int .i64 m)):
 Calls Tryz.prog 212 #[.int .i64 (i:Nat)] w λe w'=>e= .returned (.tuple #[.agg (hdrC h),.bool true])/\Below w.heap.size w w':=by
 have h3:=hid ((Below.refl w.heap.size w).alloc (Nat.le_refl _) (.cells #[.string ⟨#[]⟩,.string ⟨#[]⟩,.bool false] 63));have HX:=hid (Blk.new w 63 #[.string ⟨#[]⟩,.string ⟨#[]⟩,.bool false]);have hg:13<w.heap.size:=World.block_lt_of_cell? w _ hm;have HM:=hid (λ(W:World) (hb:Below w.heap.size w W)=>(show W.cell? ⟨13,0,none⟩=some (.int .i64 m)from(World.cell?_of_block (hb.block _ hg)).trans hm));have HI:=hid hi;have h5:j<61:=by
  have h1:=(List.getElem?_eq_some_iff.1 hi).1;have h2:Hk.statH.length=61:=by kernel_rfl
  omega
 have k1:¬(i:Int)<1:=by omega
 have k2:¬(61:Int)<(i:Int):=by omega
 have h6:i-1=j:=by omega
 have he:=hid h6;clear hm hg hi hij h5 h6;go_enter Tryz.func212,Tryz.ntmps212;go_upto_region 3 with fail;generalize w.alloc (.cells #[.string ⟨#[]⟩,.string ⟨#[]⟩,.bool false] 63)=W0 at*
 have hf:=HM.out W0 h3.out;go_wp2_with (first
  |(go_at_call 233
    refine Calls.mono (standsA_any W0 m hf) ?_;rintro e w1 ⟨L,hL,rfl,hw⟩;obtain⟨s,h7,h8,hs3,h9,hc,hh⟩:=hL.at_ HI.out;have h4:=hid (h3.out.alloc h3.out.size (.cells (L.map Value.string).toArray 9));have qj:w1.cell? ⟨W0.heap.size,i-1,none⟩=some (.string s):=by
     rw[hw,he.out];exact((Blk.new W0 9 (L.map Value.string).toArray).cell j).trans (by simp[h7])
    have hd:=hid (And.intro h8 (And.intro hs3 (And.intro h9 hc)));rw[<-hw]at h4;have h0:Blk w1 w.heap.size 63 #[.string ⟨#[]⟩,.string ⟨#[]⟩,.bool false]:=hw▸HX.out.alloc _;have hj:=HM.out w1 h4.out;clear hL hw h7 h8 hs3 h9 hc hh)
  |(go_at_call 232
    refine Calls.mono (Tryz.strings_Cut _ _ m _ (by have:=hd.out.1;omega) hj) ?_;rintro e w2 ⟨rfl,n,hw⟩;subst w2;have hk:=h0.drewN n;have x0:=h0.cell 0;have x1:=h0.cell 1;have x2:=h0.cell 2;have xf:=h0.frozen 0;have xf1:=h0.frozen 1;have xf2:=h0.frozen 2;simp only[List.getElem?_toArray,List.getElem?_cons_zero,List.getElem?_cons_succ]at x0 x1 x2)
  |fail)
 refine bodyPost_ret (results_static _ _ w.heap.size _ _ _ _ rfl rfl (Blk3 hk rfl _ _ _)) rfl ⟨?_,below3 (bdN h4.out n) (Nat.le_refl _) _ _ _⟩;obtain⟨hn,hv,hne⟩:=h;have e1:=hd.out;simp only at e1;obtain⟨_,e2,e3,e4⟩:=e1;subst e2 e3 e4
 rfl
theorem static0_any (w:World):Calls Tryz.prog 212 #[.int .i64 0] w λe w'=>e= .returned (.tuple #[.agg #[.string ⟨#[]⟩,.string ⟨#[]⟩,.bool false],.bool false])/\Below w.heap.size w w':=by
 have h0:=hid ((Below.refl w.heap.size w).alloc (Nat.le_refl _) (.cells #[.string ⟨#[]⟩,.string ⟨#[]⟩,.bool false] 63));have HX:=hid (Blk.new w 63 #[.string ⟨#[]⟩,.string ⟨#[]⟩,.bool false]);go_enter Tryz.func212,Tryz.ntmps212;go_upto_region 2 with fail;generalize w.alloc (.cells #[.string ⟨#[]⟩,.string ⟨#[]⟩,.bool false] 63)=W0 at*
 have x0:=HX.out.cell 0;have x1:=HX.out.cell 1;have x2:=HX.out.cell 2;have xf:=HX.out.frozen 0;have xf1:=HX.out.frozen 1;have xf2:=HX.out.frozen 2;have xl:=HX.out.lt;simp only[List.getElem?_toArray,List.getElem?_cons_zero,List.getElem?_cons_succ]at x0 x1 x2;go_wp2_with fail;refine bodyPost_ret (results_static _ _ w.heap.size _ _ _ _ rfl rfl (Blk3 HX.out rfl _ _ _)) rfl ⟨rfl,below3 h0.out (Nat.le_refl _) _ _ _⟩
end Go.Proofs.YtkpppjhbmnfmkaaGreatDoor
end
