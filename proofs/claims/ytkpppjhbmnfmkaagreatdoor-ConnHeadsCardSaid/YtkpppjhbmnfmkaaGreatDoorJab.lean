/-
  
  
-/
import Derived.Test.YtkpppjhbmnfmkaaGreatDoorJaa
import Derived.Shelf.Abstract
import Derived.Laws.AppendOwn
import Derived.Maps.AppendAt
import Derived.Laws.OwnMore
import Derived.Deep.AppendLies
import Derived.OwnWalk
import Derived.WalkSpells
import Derived.Deep.AppendSrc
import Derived.Deep.Upon
set_option linter.unusedSimpArgs false
set_option linter.unusedVariables false
section
namespace Go.Own.Cm
open Go Go.RowKit Go.Own
def RS {α:Type} (f:α->Array Value) (k:Nat) (w:World) (B:Nat) (A:Option Addr) (n:Nat) (l:List α):Prop:=
 l.length=n/\∀(j:Nat) (x:α),l[j]?=some x->∃ad,A=some ad/\ad.block<B/\ad.block<w.heap.size/\w.cell? (ad.add (j*k))=(f x)[0]?/\
  ∀(i:Nat) (v:Value),1<=i->(f x)[i]?=some v->w.cell? ⟨(ad.add (j*k)).block,(ad.add (j*k)).off+i,none⟩=some v
section
variable {α:Type} {f:α->Array Value} {k:Nat} {w w':World} {B:Nat} {A:Option Addr} {n:Nat} {l:List α}
theorem cell_same {ad:Addr} (h:w'.heap[ad.block]?=w.heap[ad.block]?):w'.cell? ad=w.cell? ad:=by
 unfold World.cell?;rw[h]
theorem RS.keep (h:RS f k w B A n l) (hs:w.heap.size<=w'.heap.size) (hk:∀ad,A=some ad->ad.block<B->ad.block<w.heap.size->w'.heap[ad.block]?=w.heap[ad.block]?):RS f k w' B A n l:=
 ⟨h.1,λj x hx=>by
   obtain⟨ad,e,hb,hw,h0,h1⟩:=h.2 j x hx;have hh:=hk ad e hb hw;refine⟨ad,e,hb,Nat.lt_of_lt_of_le hw hs,?_,λi v hi hv=>?_⟩
   · rw[<-h0];exact cell_same (by rw[add_block];exact hh)
   · rw[<-h1 i v hi hv]
     exact cell_same (by show w'.heap[(ad.add (j*k)).block]?=w.heap[(ad.add (j*k)).block]?;rw[add_block];exact hh)⟩
theorem RS.below (h:RS f k w B A n l) (hb:Below B w w'):RS f k w' B A n l:=h.keep hb.size λ_ _ h1 _=>hb.block _ h1
theorem RS.more {B':Nat} (h:RS f k w B A n l) (hB:B<=B'):RS f k w B' A n l:=⟨h.1,λj x hx=>by
 obtain⟨ad,e,hb,r⟩:=h.2 j x hx;exact⟨ad,e,Nat.lt_of_lt_of_le hb hB,r⟩⟩
theorem RS.at2 (h:RS f k w B A n l) {j:Nat} (hj:j<n):∃ad x,A=some ad/\l[j]?=some x/\w.cell? (ad.add (j*k))=(f x)[0]?/\∀(i:Nat) (v:Value),1<=i->(f x)[i]?=some v->w.cell? ⟨(ad.add (j*k)).block,(ad.add (j*k)).off+i,none⟩=some v:=by
 have h2:j<l.length:=by rw[h.1];exact hj
 obtain⟨ad,e,_,_,h0,h1⟩:=h.2 j l[j] (List.getElem?_eq_getElem h2);exact⟨ad,l[j],e,List.getElem?_eq_getElem h2,h0,h1⟩
theorem RS.nil:RS f k w B none 0 []:=⟨rfl,λj x hx=>by simp at hx⟩
end
section
variable {α:Type} {f:α->Array Value} {k:Nat}
def flat (f:α->Array Value) (l:List α):List Value:=l.flatMap λx=>(f x).toList
theorem flat_append (a b:List α):flat f (a++b)=flat f a++flat f b:=by simp[flat]
theorem flat_len (hk:∀x,(f x).size=k) (l:List α):(flat f l).length=l.length*k:=by
 induction l with
 |nil=>simp[flat]
 |cons x l ih=>
  have h:=hk x;simp[flat]at ih ⊢;rw[ih,h,Nat.add_mul];omega
theorem flat_at (hk:∀x,(f x).size=k) (l:List α) (j i:Nat) (hi:i<k):(flat f l)[j*k+i]?=(l[j]?).bind λx=>(f x)[i]?:=by
 induction l generalizing j with
 |nil=>simp[flat]
 |cons x l ih=>
  have e:flat f (x::l)=(f x).toList++flat f l:=by simp[flat]
  have hx:(f x).toList.length=k:=by simpa using hk x
  rw[e];cases j with
  |zero=>
   rw[List.getElem?_append_left (by rw[hx];omega)];simp
  |succ j=>
   rw[List.getElem?_append_right (by rw[hx,Nat.add_mul];omega),hx,show(j+1)*k+i-k=j*k+i by rw[Nat.add_mul];omega,ih j];simp
theorem flat_one (h1:∀x,∀u∈(f x).toList,u.oneCell'=true) (l:List α):∀u∈flat f l,u.oneCell'=true:=by
 intro u hu;simp only[flat,List.mem_flatMap]at hu;obtain⟨x,_,hx⟩:=hu;exact h1 x u hx
theorem RS.flatc {w:World} {B:Nat} {A:Option Addr} {n:Nat} {l:List α} (h:RS f k w B A n l) (hk:∀x,(f x).size=k) (j:Nat) (u:Value) (hu:(flat f l)[j]?=some u):
 ∃ad,A=some ad/\ad.block<w.heap.size/\w.cell? (ad.add j)=some u:=by
 have hj:=(List.getElem?_eq_some_iff.1 hu).1;rw[flat_len hk]at hj;have h3:0<k:=by
  rcases Nat.eq_zero_or_pos k with h0|h0
  · rw[h0]at hj;omega
  · exact h0
 have hd:j/k*k+j % k=j:=by rw[Nat.mul_comm];exact Nat.div_add_mod j k
 have hm:=Nat.mod_lt j h3;have h2:j/k<l.length:=Nat.div_lt_of_lt_mul (by rw[Nat.mul_comm];exact hj);have e:=flat_at hk l (j/k) (j % k) hm;rw[hd,hu,List.getElem?_eq_getElem h2]at e;obtain⟨ad,eA,_,h4,h0,h1⟩:=h.2 (j/k) l[j/k] (List.getElem?_eq_getElem h2);refine⟨ad,eA,h4,?_⟩;have e':(f l[j/k])[j % k]?=some u:=e.symm;by_cases hz:j % k=0
 · rw[hz]at e' hd
   rw[<-e',<-h0]
   congr 2
   omega
 · rw[<-h1 (j % k) u (by omega) e']
   have:(⟨(ad.add (j/k*k)).block,(ad.add (j/k*k)).off+j % k,none⟩:Addr)=ad.add (j/k*k+j % k):=by
    rw[<-add_two];show _=Addr.add _ _
    conv=>rhs;unfold Addr.add
    rw[if_neg hz]
    rfl
   rw[this,hd]
theorem RS.of_flat {w:World} {B:Nat} {ad:Addr} {n:Nat} {l:List α} (hn:l.length=n) (hk:∀x,(f x).size=k) (h1:0<k) (hB:ad.block<B) (hw:ad.block<w.heap.size)
 (h:∀(j:Nat) (u:Value),(flat f l)[j]?=some u->w.cell? (ad.add j)=some u):RS f k w B (some ad) n l:=
 ⟨hn,λj x hx=>by
   refine⟨ad,rfl,hB,hw,?_,λi v hi hv=>?_⟩
   · have e:=flat_at hk l j 0 h1
     rw[hx]at e;have h0:(f x)[0]?=some ((f x)[0]'(by rw[hk x];exact h1)):=Array.getElem?_eq_getElem _;have e':(Cm.flat f l)[j*k]?=(f x)[0]?:=e;rw[h0]at e' ⊢;exact h _ _ e'
   · have h2:i<k:=by rw[<-hk x];exact(Array.getElem?_eq_some_iff.1 hv).1
     have e:=flat_at hk l j i h2;rw[hx]at e;have e':(Cm.flat f l)[j*k+i]?=some v:=e.trans hv;have:(⟨(ad.add (j*k)).block,(ad.add (j*k)).off+i,none⟩:Addr)=ad.add (j*k+i):=by
      rw[<-add_two];show _=Addr.add _ _
      conv=>rhs;unfold Addr.add
      rw[if_neg (by omega)]
      rfl
     rw[this];exact h _ _ e'⟩
def Ew (f:α->Array Value) (e:TypeId) (k:Nat) (w:World) (base:Nat) (v:Value) (l:List α):Prop:=w.ownsRow base e k v l.length (flat f l)
variable {e:TypeId} {w w':World} {base:Nat} {v:Value} {l:List α}
theorem Ew.form (h:Ew f e k w base v l):∃A c,v= .slice A l.length c/\l.length<=c/\c<=maxLen:=by
 rcases h.2 with⟨rfl,h0⟩|⟨g,cap,cur,rfl,hb,hg,hn,hm,_⟩
 · exact⟨none,0,by rw[h0],by omega,by simp[maxLen]⟩
 · exact⟨_,cap,rfl,hn,hm⟩
theorem Ew.lt (h:Ew f e k w base v l):∀g,v.ownBlock=some g->base<=g/\g<w.heap.size:=World.ownsRow.lt h
theorem Ew.grown {row:Option Nat} (h:Ew f e k w base v l) (hg:w.grownBy w' row) (hne:v.ownBlock=none\/v.ownBlock≠row):Ew f e k w' base v l:=World.ownsRow.kept h hg hne
theorem own_or (v:Value):v.ownBlock=none\/v.ownBlock≠none:=by cases v.ownBlock<;>simp
theorem Ew.below (h:Ew f e k w base v l) (hb:Below w.heap.size w w'):Ew f e k w' base v l:=h.grown (grown_of_below hb none) (own_or v)
theorem Ew.nil (f:α->Array Value) (e:TypeId) (k:Nat) (w:World) (base:Nat):Ew f e k w base (.slice none 0 0) []:=⟨by simp[flat],.inl ⟨rfl,rfl⟩⟩
theorem Ew.from {n c:Nat} {A:Option Addr} (h:Ew f e k w base (.slice A n c) l):∀ad,A=some ad->base<=ad.block:=by
 rcases h.2 with⟨e,_⟩|⟨g,cap,cur,e,hb,_⟩
 · injection e with e1 _ _
   subst e1;intro ad e;cases e
 · injection e with e1 _ _
   subst e1;intro ad e;cases e;exact hb
theorem RS.setCell {B n:Nat} {A:Option Addr} (h:RS f k w B A n l) {p:Addr} (hp:∀ad,A=some ad->ad.block≠p.block) (u:Value):RS f k (w.setCell p u) B A n l:=
 h.keep (by simp[World.setCell]) λad e _ _=>Below.heap_setCell w p u _ (hp ad e)
theorem Ew.rs {n c:Nat} {A:Option Addr} (h:Ew f e k w base (.slice A n c) l) (hk:∀x,(f x).size=k) (hk0:0<k):RS f k w w.heap.size A n l:=by
 have hn:l.length=n:=by
  obtain⟨A',c',e,_⟩:=h.form;injection e with _ e _
  exact e.symm
 rcases h.2 with⟨e,h0⟩|⟨g,cap,cur,e,_⟩
 · have:l=[]:=List.eq_nil_of_length_eq_zero h0
   subst this;injection e with e1 _ _
   subst e1;obtain rfl:n=0:=by simpa using hn.symm
   exact RS.nil
 · have e':=e
   injection e' with e1 _ _
   subst e1;exact RS.of_flat hn hk hk0 (World.ownsRow.lt h g rfl).2 (World.ownsRow.lt h g rfl).2 λj u hu=>World.ownsRow.cells h (g:=g) rfl j u hu
theorem Ew.lit (f:α->Array Value) (e:TypeId) (hk:∀x,(f x).size=k) (w:World) (l:List α) (hl:l.length<=1000):Ew f e k (w.alloc (.cells (flat f l).toArray e)) w.heap.size (.slice (some ⟨w.heap.size,0,none⟩) l.length l.length) l:=
 World.ownsRow_lit w (flat f l).toArray l.length (Nat.le_refl _) (by simp only[maxLen];omega) (by rw[List.size_toArray,flat_len hk])
end
structure ElP (P:Program) {α:Type} (f:α->Array Value) (t e:TypeId) (k bytes:Nat):Prop where
 slice:P.underlying t=some (.slice e)
 info:∃i z,P.info? e=some i/\i.zero=some z/\i.size=k/\i.bytes=bytes/\z.cells.size=k
 size:∀x,(f x).size=k
 one:∀x,∀u∈(f x).toList,u.oneCell'=true
 pos:0<k
 few:bytes<=1000
section
variable {P:Program} {α:Type} {f:α->Array Value} {t e:TypeId} {k bytes:Nat}
theorem run_app_e (hP:ElP P f t e k bytes) (w:World) (ty:TypeId) (base:Nat) (v:Value) (l0:List α) (h4:Ew f e k w base v l0) (B:Nat) (A:Option Addr) (n c:Nat) (l:List α) (hr:RS f k w B A n l) (hb:l0.length+n<=1000000) (hbase:base<=w.heap.size):
 ∃v' w',(Builtin.append_ #[t,t] ty #[v,.slice A n c]).run P w= .ok v' w'/\Ew f e k w' base v' (l0++l)/\w.grownBy w' v.ownBlock/\(v'.ownBlock=v.ownBlock\/v'.ownBlock=some w.heap.size):=by
 obtain⟨i,z,hi,hz,h1,h2,h3⟩:=hP.info;rcases Nat.eq_zero_or_pos n with h0|h0
 · subst h0
   have hl:l=[]:=List.eq_nil_of_length_eq_zero hr.1;subst hl;refine⟨v,w,?_,by simpa using h4,World.grownBy.refl w _,.inl rfl⟩;rcases h4.2 with⟨rfl,h0⟩|⟨g,cap,cur,rfl,_,_,h7,_⟩
   · rcases A with _|ad<;>simp[Builtin.append_,run_underlying hP.slice,sizeOf,typeInfo,hi,Builtin.lenOf,Builtin.firstCells,loadCells,loadCellsFrom]
   · rcases A with _|ad<;>simp[Builtin.append_,run_underlying hP.slice,sizeOf,typeInfo,hi,Builtin.lenOf,Builtin.firstCells,h7,storeCells,loadCells,loadCellsFrom]
 · have h8:0<l.length:=by rw[hr.1];exact h0
   obtain⟨ad,rfl,_⟩:=hr.2 0 l[0] (List.getElem?_eq_getElem h8);have h5:=hP.few;obtain⟨v',w',h6,r1,r2,_,r4⟩:=run_append_own_at (P:=P) w base t ty e i z k bytes hP.slice hi hz h1 h2 h3 hP.pos v l0.length (flat f l0) h4 ad n c (flat f l) (by rw[flat_len hP.size,hr.1]) (λj u hu=>by
    obtain⟨ad',e,_,h⟩:=hr.flatc hP.size j u hu;obtain rfl:=Option.some.inj e;exact h) (flat_one hP.one l) (by simp only[maxLen];omega) (by
     have:(l0.length+n)*bytes<=1000000*1000:=Nat.mul_le_mul hb h5;omega) hbase
   refine⟨v',w',h6,?_,r2,r4⟩;unfold Ew;rw[flat_append,List.length_append,hr.1];exact r1
variable {ops:Array Oper} {rest:List Oper} {o:Oper} {a:Act} {Q:Exit->Act->World->Prop}
theorem wpList_app_e (hP:ElP P f t e k bytes) (w:World) (hgd:o.guard=none) (s x:Operand) (ho:o.op= .call {callee:=.builtin .append,args:=#[s,x],argTypes:=#[t,t]})
 (base:Nat) (v:Value) (l0:List α) (hs:a.eval s=v) (h2:Ew f e k w base v l0) (B:Nat) (A:Option Addr) (n c:Nat) (l:List α) (hx:a.eval x= .slice A n c) (hr:RS f k w B A n l) (hb:l0.length+n<=1000000) (h1:base<=w.heap.size)
 (h:∀A' c' w',Ew f e k w' base (.slice A' (l0.length+n) c') (l0++l)->w.grownBy w' v.ownBlock->((Value.slice A' (l0.length+n) c').ownBlock=v.ownBlock\/(Value.slice A' (l0.length+n) c').ownBlock=some w.heap.size)->wpList P ops Q rest (a.put o.dst (.slice A' (l0.length+n) c')) w'):wpList P ops Q (o::rest) a w:=by
 refine wpList_plain hgd λK hK=>?_;obtain⟨v',w',h0,r1,r2,r3⟩:=run_app_e hP w o.type base v l0 h2 B A n c l hr hb h1;obtain⟨A',c',rfl,_⟩:=r1.form;rw[List.length_append,hr.1]at h0 r1 r3;unfold Oper.wp execOp;simp only[ho,resolve,invoke,builtin,Sem.run_bind,Sem.run_pure,Result.andThen_ok,List.map_toArray,List.map_cons,List.map_nil,hs,hx,h0];exact hK _ _ (h A' c' w' r1 r2 r3)
theorem step_app_e {K:Act->World->Prop} {E:Prop} (hP:ElP P f t e k bytes) (w:World) (h3:o.guard=none) (s x:Operand) (ho:o.op= .call {callee:=.builtin .append,args:=#[s,x],argTypes:=#[t,t]})
 (base:Nat) (v:Value) (l0:List α) (hs:a.eval s=v) (h2:Ew f e k w base v l0) (B:Nat) (A:Option Addr) (n c:Nat) (l:List α) (hx:a.eval x= .slice A n c) (hr:RS f k w B A n l) (hb:l0.length+n<=1000000) (h1:base<=w.heap.size)
 (h:∀A' c' w',Ew f e k w' base (.slice A' (l0.length+n) c') (l0++l)->w.grownBy w' v.ownBlock->((Value.slice A' (l0.length+n) c').ownBlock=v.ownBlock\/(Value.slice A' (l0.length+n) c').ownBlock=some w.heap.size)->K (a.put o.dst (.slice A' (l0.length+n) c')) w'):
 if Region.wanted o (yielded ops a.tmps)=true then Oper.wp P o a w K Q else E:=by
 have hw:Region.wanted o (yielded ops a.tmps)=true:=by simp[Region.wanted,h3]
 rw[if_pos hw];obtain⟨v',w',h0,r1,r2,r3⟩:=run_app_e hP w o.type base v l0 h2 B A n c l hr hb h1;obtain⟨A',c',rfl,_⟩:=r1.form;rw[List.length_append,hr.1]at h0 r1 r3;unfold Oper.wp execOp;simp only[ho,resolve,invoke,builtin,Sem.run_bind,Sem.run_pure,Result.andThen_ok,List.map_toArray,List.map_cons,List.map_nil,hs,hx,h0];exact h A' c' w' r1 r2 r3
end
end Go.Own.Cm
end

section
namespace Go.Own
open Go Go.RowKit
theorem tape_setCells (g:Nat):∀(vs:List Value) (o:Nat) (w:World),(w.setCells g o vs).tape=w.tape
 |[],_,_=>rfl
 |_::r,o,w=>(tape_setCells g r (o+1) _).trans rfl
theorem size_setCells (g:Nat):∀(vs:List Value) (o:Nat) (w:World),(w.setCells g o vs).heap.size=w.heap.size
 |[],_,_=>rfl
 |_::r,o,w=>(size_setCells g r (o+1) _).trans (by simp[World.setCell])
theorem grown_setCells (w:World) (g o:Nat) (vs:List Value):w.grownBy (w.setCells g o vs) (some g):=
 ⟨World.os_setCells w g o vs,tape_setCells g vs o w,World.output_setCells w g o vs,by rw[size_setCells];exact Nat.le_refl _,λi hi hne=>World.heap_setCells_other w g o vs hi (λe=>hne (by rw[e]))⟩
def Oz (w:World) (own:Nat->Prop) (v:Value) (l:List UInt8):Prop:=
 ∃A c,v= .slice A l.length c/\l.length<=c/\c<=maxLen/\(0<c->∃g off,A=some ⟨g,off,none⟩/\own g/\g<w.heap.size/\
  (∀j,l.length<=j->j<c->(w.cell? ⟨g,off+j,none⟩).isSome=true/\w.frozen? ⟨g,off+j,none⟩=false)/\∀j,j<l.length->w.cell? ⟨g,off+j,none⟩=some (bv (l.getD j 0)))
section
variable {w w':World} {own own':Nat->Prop} {v:Value} {l:List UInt8}
theorem Oz.nil (w:World) (own:Nat->Prop):Oz w own (.slice none 0 0) []:=⟨none,0,rfl,Nat.le_refl _,by simp[maxLen],λh=>absurd h (Nat.lt_irrefl _)⟩
theorem Oz.owned (h:Oz w own v l) (hm:∀g,g<w.heap.size->own g->own' g):Oz w own' v l:=by
 obtain⟨A,c,rfl,h1,h2,h3⟩:=h;exact⟨A,c,rfl,h1,h2,λhc=>by
  obtain⟨g,off,e,ho,h0,r⟩:=h3 hc;exact⟨g,off,e,hm g h0 ho,h0,r⟩⟩
theorem Oz.keep (h:Oz w own v l) (hk:∀g,g<w.heap.size->own g->w'.heap[g]?=w.heap[g]?) (hs:w.heap.size<=w'.heap.size):Oz w' own v l:=by
 obtain⟨A,c,rfl,h1,h2,h3⟩:=h;refine⟨A,c,rfl,h1,h2,λhc=>?_⟩;obtain⟨g,off,e,ho,h0,h4,h5⟩:=h3 hc;have hh:=hk g h0 ho;have e1:∀j,w'.cell? ⟨g,j,none⟩=w.cell? ⟨g,j,none⟩:=λj=>World.cell?_of_block (a:=⟨g,j,none⟩) hh;have e2:∀j,w'.frozen? ⟨g,j,none⟩=w.frozen? ⟨g,j,none⟩:=λj=>World.frozen?_of_block (a:=⟨g,j,none⟩) hh;exact⟨g,off,e,ho,Nat.lt_of_lt_of_le h0 hs,λj hl hj=>by rw[e1,e2];exact h4 j hl hj,λj hj=>by rw[e1];exact h5 j hj⟩
theorem Oz.grown {row:Option Nat} (h:Oz w own v l) (hg:w.grownBy w' row) (hn:∀g,row=some g->¬own g):Oz w' own v l:=
 h.keep (λg h0 ho=>hg.block g h0 (λe=>hn g e.symm ho)) hg.size
theorem Oz.drew (h:Oz w own v l):Oz w.drew own v l:=h
theorem Oz.form (h:Oz w own v l):∃A c,v= .slice A l.length c/\l.length<=c/\c<=maxLen:=by
 obtain⟨A,c,e,h1,h2,_⟩:=h;exact⟨A,c,e,h1,h2⟩
theorem Oz.rd {A:Option Addr} {n c:Nat} (h:Oz w own (.slice A n c) l):Rd w w.heap.size A n l:=by
 obtain⟨A',c',e,h1,h2,h3⟩:=h;injection e with e1 e2 e3
 subst e1 e2 e3;refine⟨rfl,λhn=>?_⟩;obtain⟨g,off,rfl,_,h0,_,h4⟩:=h3 (by omega);exact⟨_,rfl,h0,λj hj=>by rw[Addr.add_lit];exact h4 j hj⟩
theorem Oz.of_ow {base:Nat} {e:TypeId} {n:Nat} (h:Ow w base e v n l) (ho:∀g,v.ownBlock=some g->own g):Oz w own v l:=by
 have hl:=h.len;subst hl;have hb:=h.2;rcases hb with⟨rfl,h0⟩|⟨g,cap,cur,rfl,_,hg,hn,hm,hs,_⟩
 · have:l=[]:=List.eq_nil_of_length_eq_zero h0
   subst this;exact Oz.nil w own
 · have h1:g<w.heap.size:=by
    rcases Nat.lt_or_ge g w.heap.size with h1|h2
    · exact h1
    · rw[Array.getElem?_eq_none h2]at hg;cases hg
   refine⟨_,cap,rfl,hn,hm,λhc=>⟨g,0,rfl,ho g rfl,h1,λj _ hj=>?_,λj hj=>?_⟩⟩
   · have e1:=cell_of_row w g (0+j) cur e (0,0) hg
     have h3:0+j<cur.size:=by rw[hs];omega
     refine⟨?_,by simp[World.frozen?,hg]⟩;rw[e1,Array.getElem?_eq_getElem h3]
     rfl
   · obtain⟨ad,e',_,hc⟩:=(Ow.rd (w:=w) (base:=base) (e:=e) (A:=some ⟨g,0,none⟩) (cap:=cap) h).2 (by omega)
     injection e' with e'
     subst e';have:=hc j hj;rw[Addr.add_lit]at this;exact this
theorem Oz.full {w:World} {own:Nat->Prop} {g n:Nat} {l:List UInt8} {B:Nat} (h:Rd w B (some ⟨g,0,none⟩) n l) (hB:B<=w.heap.size) (hn:n<=1000000) (hg:own g) (h0:0<n):Oz w own (.slice (some ⟨g,0,none⟩) n n) l:=by
 have hl:=h.1;subst hl;obtain⟨ad,e,hb,hc⟩:=h.2 h0;injection e with e
 subst e;refine⟨_,l.length,rfl,Nat.le_refl _,by simp only[maxLen];omega,λ_=>⟨g,0,rfl,hg,Nat.lt_of_lt_of_le hb hB,λj h1 h2=>absurd h1 (by omega),λj hj=>?_⟩⟩;have:=hc j hj;rw[Addr.add_lit]at this;exact this
theorem Oz.cut {A:Option Addr} {n c k:Nat} (h:Oz w own (.slice A n c) l) (hk:k<=n):Oz w own (.slice (if c=k then A else A.map λx=>x.add k) (n-k) (c-k)) (l.drop k):=by
 obtain⟨A',c',e,h1,h2,h3⟩:=h;injection e with e1 e2 e3
 subst e1 e2 e3;refine⟨_,c-k,by rw[List.length_drop],by rw[List.length_drop];omega,by omega,λhc=>?_⟩;obtain⟨g,off,rfl,ho,h0,hs,h4⟩:=h3 (by omega);refine⟨g,off+k,?_,ho,h0,λj hl hj=>?_,λj hj=>?_⟩
 · rw[if_neg (by omega)]
   simp[Addr.add_lit]
 · rw[List.length_drop]at hl
   rw[Nat.add_assoc];exact hs (k+j) (by omega) (by omega)
 · rw[List.length_drop]at hj
   rw[Nat.add_assoc,h4 (k+j) (by omega)];simp
end
theorem run_app_z {P:Program} {t e:TypeId} (hP:ByteP P t e) (w:World) (ty:TypeId) (own:Nat->Prop) (v:Value) (l:List UInt8) (h:Oz w own v l) (B:Nat) (A:Option Addr) (m c:Nat) (l2:List UInt8) (hr:Rd w B A m l2) (hb:l.length+m<=140737488355328):
 ∃v' w' row,(Builtin.append_ #[t,t] ty #[v,.slice A m c]).run P w= .ok v' w'/\Oz w' (λg=>own g\/(row=none/\g=w.heap.size)) v' (l++l2)/\w.grownBy w' row/\(∀g,row=some g->own g/\g<w.heap.size):=by
 obtain⟨i,hi,hz,h1,h2⟩:=hP.info;obtain⟨A0,c0,rfl,hd,he,ho⟩:=h;have h3:=hr.1;have hw:maxLen=9223372036854775807:=rfl;have hs:Src P i.size t (.slice A m c) m (l2.map bv) w:=by
  rcases A with _|ad
  · obtain⟨rfl,rfl⟩:=hr.none_zero
    exact Src.ofNil _ hP.slice c
  · exact Src.ofSlice _ hP.slice ad m c _ (by simp[h1,h3]) hr.cells bv_one
 have h8:(l2.map bv).length=m:=by simp[h3]
 by_cases h5:l.length+m<=c0
 · by_cases hh:c0=0
   · subst hh
     have hm:m=0:=by omega
     subst hm;have e2:l2=[]:=List.eq_nil_of_length_eq_zero h3;subst e2;have h4:=run_append_nothing (P:=P) w t t ty e i hP.slice hi A0 l.length 0 hd (.slice A 0 c) hs;exact⟨_,w,none,h4,⟨A0,0,by simp,by simpa using hd,he,λh=>absurd h (Nat.lt_irrefl _)⟩,World.grownBy.refl w _,λg e=>by cases e⟩
   · obtain⟨g,off,rfl,hg,hf,h7,h9⟩:=ho (by omega)
     have h6:∀j,j<(l2.map bv).length->(w.cell? ⟨g,off+l.length*i.size+j,none⟩).isSome=true:=λj hj=>by
      rw[h1,Nat.mul_one,Nat.add_assoc];exact(h7 (l.length+j) (by omega) (by omega)).1
     have h4:=run_append_room_src (P:=P) w t t ty e i hP.slice hi g off l.length c0 (.slice A m c) m _ hs h5 h6
      (λj hj=>by rw[h1,Nat.mul_one,Nat.add_assoc];exact(h7 (l.length+j) (by omega) (by omega)).2)
     refine⟨_,_,some g,h4,⟨_,c0,by rw[List.length_append,h3],by rw[List.length_append,h3];exact h5,he,λ_=>⟨g,off,rfl,.inl hg,?_,λj hl hj=>⟨?_,?_⟩,λj hj=>?_⟩⟩,grown_setCells w g _ _,λg' e=>by injection e with e;subst e;exact⟨hg,hf⟩⟩
     · rw[size_setCells];exact hf
     · rw[List.length_append,h3]at hl
       rw[World.cell?_setCells_out g _ _ _ _ (λ_ _=>by rw[h1,h8];show off+j<off+l.length*1\/off+l.length*1+m<=off+j;omega)];exact(h7 j (by omega) hj).1
     · rw[List.length_append,h3]at hl
       rw[World.frozen?_setCells];exact(h7 j (by omega) hj).2
     · rw[List.length_append,h3]at hj
       by_cases hn:l.length<=j
       · have:=World.cell?_setCells_in g (l2.map bv) (off+l.length*i.size) w h6 (j-l.length) (by omega)
         rw[h1,Nat.mul_one,show off+l.length+(j-l.length)=off+j by omega]at this;rw[h1,Nat.mul_one,this,List.getElem_map,List.getD_eq_getElem?_getD,List.getElem?_append_right hn,List.getElem?_eq_getElem (by omega)]
         rfl
       · rw[World.cell?_setCells_out g _ _ _ _ (λ_ _=>by rw[h1,h8];show off+j<off+l.length*1\/off+l.length*1+m<=off+j;omega),h9 j (by omega),List.getD_eq_getElem?_getD,List.getD_eq_getElem?_getD,List.getElem?_append_left (by omega)]
 · have hc:(Builtin.firstCells i.size l.length (.slice A0 l.length c0)).run P w.drew= .ok (l.map bv).toArray w.drew:=by
    rcases Nat.eq_zero_or_pos l.length with h0|h0
    · have e0:l=[]:=List.eq_nil_of_length_eq_zero h0
      subst e0;rcases A0 with _|a0
      · exact run_firstCells_none w.drew i.size 0 0 c0
      · exact run_firstCells_some w.drew i.size 0 a0 0 c0 [] (by simp) (by intro _ _ h';simp at h')
    · obtain⟨g,off,rfl,_,_,_,h9⟩:=ho (by omega)
      refine run_firstCells_some w.drew i.size l.length ⟨g,off,none⟩ l.length c0 _ (by simp[h1]) (λj u hu=>?_);have hj:j<l.length:=by have:=(List.getElem?_eq_some_iff.1 hu).1;simpa using this
      rw[Addr.add_lit];refine(h9 j hj).trans ?_;rw[<-hu,List.getElem?_map,List.getD_eq_getElem?_getD,List.getElem?_eq_getElem hj]
      rfl
   have h4:=run_append_grow_src (P:=P) w t t ty e i _ hP.slice hi hz A0 l.length c0 (l.map bv) hc (.slice A m c) m _ hs (by omega) (by omega) (growslice_fits (by omega) (by rw[h2];omega));have hq:=grownCap_ge w (l.length+m) c0 e;have ht:=grownCap_le_maxLen w (l.length+m) c0 e (by omega);refine⟨_,_,none,h4,⟨_,grownCap w (l.length+m) c0 e,by rw[List.length_append,h3],by rw[List.length_append,h3];exact hq,ht,λ_=>⟨w.heap.size,0,rfl,.inr ⟨rfl,rfl⟩,?_,λj _ hj=>⟨?_,?_⟩,λj hj=>?_⟩⟩,⟨rfl,rfl,rfl,by simp,λk hk _=>Below.heap_alloc w.drew _ k hk⟩,λg e=>by cases e⟩
   · simp
   · have hsz:((l.map bv++l2.map bv).toArray++Builtin.zeroCells (Value.int .u8 0).cells (grownCap w (l.length+m) c0 e-(l.length+m))).size=grownCap w (l.length+m) c0 e:=by
      rw[Array.size_append,List.size_toArray,List.length_append,List.length_map,h8,size_zeroCells];show l.length+m+(grownCap w (l.length+m) c0 e-(l.length+m))*1=_;omega
     have e1:=World.cell?_alloc_new w.drew ((l.map bv++l2.map bv).toArray++Builtin.zeroCells (Value.int .u8 0).cells (grownCap w (l.length+m) c0 e-(l.length+m))) e (0+j);refine(congrArg Option.isSome e1).trans ?_;rw[Array.getElem?_eq_getElem (by rw[hsz];omega)]
     rfl
   · exact World.frozen?_alloc_new w.drew _ _ _
   · rw[List.length_append,h3]at hj
     have e1:=World.cell?_alloc_new w.drew ((l.map bv++l2.map bv).toArray++Builtin.zeroCells (Value.int .u8 0).cells (grownCap w (l.length+m) c0 e-(l.length+m))) e (0+j);refine e1.trans ?_;rw[Array.getElem?_append_left (by simp[h3];omega),<-List.map_append,List.getElem?_toArray,List.getElem?_map,Nat.zero_add,List.getD_eq_getElem?_getD,List.getElem?_eq_getElem (by rw[List.length_append,h3];exact hj)]
     rfl
section
variable {P:Program} {ops:Array Oper} {rest:List Oper} {o:Oper} {a:Act} {Q:Exit->Act->World->Prop} {K:Act->World->Prop} {E:Prop} {t e:TypeId}
theorem wpList_app_z (hP:ByteP P t e) (w:World) (hgd:o.guard=none) (s x:Operand) (ho:o.op= .call {callee:=.builtin .append,args:=#[s,x],argTypes:=#[t,t]})
 (own:Nat->Prop) (v:Value) (l:List UInt8) (hs:a.eval s=v) (h:Oz w own v l) (B:Nat) (A:Option Addr) (m c:Nat) (l2:List UInt8) (hx:a.eval x= .slice A m c) (hr:Rd w B A m l2) (hb:l.length+m<=140737488355328)
 (hK:∀A' c' w' row,Oz w' (λg=>own g\/(row=none/\g=w.heap.size)) (.slice A' (l.length+m) c') (l++l2)->w.grownBy w' row->(∀g,row=some g->own g/\g<w.heap.size)->wpList P ops Q rest (a.put o.dst (.slice A' (l.length+m) c')) w'):wpList P ops Q (o::rest) a w:=by
 refine wpList_plain hgd λK h1=>?_;obtain⟨v',w',row,h0,r1,r2,r3⟩:=run_app_z hP w o.type own v l h B A m c l2 hr hb;obtain⟨A',c',rfl,_,_⟩:=r1.form;rw[List.length_append,hr.1]at h0 r1;unfold Oper.wp execOp;simp only[ho,resolve,invoke,builtin,Sem.run_bind,Sem.run_pure,Result.andThen_ok,List.map_toArray,List.map_cons,List.map_nil,hs,hx,h0];exact h1 _ _ (hK A' c' w' row r1 r2 r3)
theorem step_app_z (hP:ByteP P t e) (w:World) (h1:o.guard=none) (s x:Operand) (ho:o.op= .call {callee:=.builtin .append,args:=#[s,x],argTypes:=#[t,t]})
 (own:Nat->Prop) (v:Value) (l:List UInt8) (hs:a.eval s=v) (h:Oz w own v l) (B:Nat) (A:Option Addr) (m c:Nat) (l2:List UInt8) (hx:a.eval x= .slice A m c) (hr:Rd w B A m l2) (hb:l.length+m<=140737488355328)
 (hK:∀A' c' w' row,Oz w' (λg=>own g\/(row=none/\g=w.heap.size)) (.slice A' (l.length+m) c') (l++l2)->w.grownBy w' row->(∀g,row=some g->own g/\g<w.heap.size)->K (a.put o.dst (.slice A' (l.length+m) c')) w'):
 if Region.wanted o (yielded ops a.tmps)=true then Oper.wp P o a w K Q else E:=by
 have hw:Region.wanted o (yielded ops a.tmps)=true:=by simp[Region.wanted,h1]
 rw[if_pos hw];obtain⟨v',w',row,h0,r1,r2,r3⟩:=run_app_z hP w o.type own v l h B A m c l2 hr hb;obtain⟨A',c',rfl,_,_⟩:=r1.form;rw[List.length_append,hr.1]at h0 r1;unfold Oper.wp execOp;simp only[ho,resolve,invoke,builtin,Sem.run_bind,Sem.run_pure,Result.andThen_ok,List.map_toArray,List.map_cons,List.map_nil,hs,hx,h0];exact hK A' c' w' row r1 r2 r3
end
end Go.Own
end
