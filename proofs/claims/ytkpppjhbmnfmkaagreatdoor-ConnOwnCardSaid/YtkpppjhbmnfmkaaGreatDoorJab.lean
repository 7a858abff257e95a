/-
  
  
  
  
  
  
  
  
  
  
  
  
  
  
  
-/
import Derived.Test.YtkpppjhbmnfmkaaGreatDoorJaa
import Derived.Deep.AppendSrc
import Derived.Deep.Upon
import Derived.Test.YtkpppjhbmnfmkaaGreatDoorJac
import Derived.Test.YtkpppjhbmnfmkaaGreatDoorProg
import Derived.Test.YtkpppjhbmnfmkaaGreatDoorJag
import Derived.Lib.SlBytesConst
import Derived.Test.YtkpppjhbmnfmkaaGreatDoorJae
import Derived.Deep.CutBlock
import Derived.Scope
import Derived.WalkMore
import Derived.Test.YtkpppjhbmnfmkaaGreatDoorFp
import Derived.Deep.RegionLaw
import Derived.Deep.RegionWith
import Derived.Deep.DrawnRows
import Derived.BigQuiet
import Derived.Recover
import Derived.Defers
import Derived.Deep.OwnRows
set_option linter.unusedSimpArgs false
set_option linter.unusedVariables false
section
namespace Go.Own
open Go Go.RowKit
theorem tape_setCells (g:Nat):∀(vs:List Value) (o:Nat) (w:World),(w.setCells g o vs).tape=w.tape
 |[],_,_=>rfl
 |_::r,o,w=>(tape_setCells g r (o+1) _).trans rfl
theorem size_setCells (g:Nat):∀(vs:List Value) (o:Nat) (w:World),(w.setCells g o vs).heap.size=w.heap.size
 |[],_,_=>rfl
 |_::r,o,w=>(size_setCells g r (o+1) _).trans (by simp[World.setCell])
theorem grown_setCells (w:World) (g o:Nat) (vs:List Value):w.grownBy (w.setCells g o vs) (some g):=
 ⟨World.os_setCells w g o vs,tape_setCells g vs o w,World.output_setCells w g o vs,by rw[size_setCells];exact Nat.le_refl _,λi hi hne=>World.heap_setCells_other w g o vs hi (λe=>hne (by rw[e]))⟩
def Oz (w:World) (own:Nat->Prop) (v:Value) (l:List UInt8):Prop:=
 ∃A c,v= .slice A l.length c/\l.length<=c/\c<=maxLen/\(0<c->∃g off,A=some ⟨g,off,none⟩/\own g/\g<w.heap.size/\
  (∀j,l.length<=j->j<c->(w.cell? ⟨g,off+j,none⟩).isSome=true/\w.frozen? ⟨g,off+j,none⟩=false)/\∀j,j<l.length->w.cell? ⟨g,off+j,none⟩=some (bv (l.getD j 0)))
section
variable {w w':World} {own own':Nat->Prop} {v:Value} {l:List UInt8}
theorem Oz.nil (w:World) (own:Nat->Prop):Oz w own (.slice none 0 0) []:=⟨none,0,rfl,Nat.le_refl _,by simp[maxLen],λh=>absurd h (Nat.lt_irrefl _)⟩
theorem Oz.owned (h:Oz w own v l) (hm:∀g,g<w.heap.size->own g->own' g):Oz w own' v l:=by
 obtain⟨A,c,rfl,h1,h2,h3⟩:=h;exact⟨A,c,rfl,h1,h2,λhc=>by
  obtain⟨g,off,e,ho,h0,r⟩:=h3 hc;exact⟨g,off,e,hm g h0 ho,h0,r⟩⟩
theorem Oz.keep (h:Oz w own v l) (hk:∀g,g<w.heap.size->own g->w'.heap[g]?=w.heap[g]?) (hs:w.heap.size<=w'.heap.size):Oz w' own v l:=by
 obtain⟨A,c,rfl,h1,h2,h3⟩:=h;refine⟨A,c,rfl,h1,h2,λhc=>?_⟩;obtain⟨g,off,e,ho,h0,h4,h5⟩:=h3 hc;have hh:=hk g h0 ho;have e1:∀j,w'.cell? ⟨g,j,none⟩=w.cell? ⟨g,j,none⟩:=λj=>World.cell?_of_block (a:=⟨g,j,none⟩) hh;have e2:∀j,w'.frozen? ⟨g,j,none⟩=w.frozen? ⟨g,j,none⟩:=λj=>World.frozen?_of_block (a:=⟨g,j,none⟩) hh;exact⟨g,off,e,ho,Nat.lt_of_lt_of_le h0 hs,λj hl hj=>by rw[e1,e2];exact h4 j hl hj,λj hj=>by rw[e1];exact h5 j hj⟩
theorem Oz.grown {row:Option Nat} (h:Oz w own v l) (hg:w.grownBy w' row) (hn:∀g,row=some g->¬own g):Oz w' own v l:=
 h.keep (λg h0 ho=>hg.block g h0 (λe=>hn g e.symm ho)) hg.size
theorem Oz.drew (h:Oz w own v l):Oz w.drew own v l:=h
theorem Oz.form (h:Oz w own v l):∃A c,v= .slice A l.length c/\l.length<=c/\c<=maxLen:=by
 obtain⟨A,c,e,h1,h2,_⟩:=h;exact⟨A,c,e,h1,h2⟩
theorem Oz.rd {A:Option Addr} {n c:Nat} (h:Oz w own (.slice A n c) l):Rd w w.heap.size A n l:=by
 obtain⟨A',c',e,h1,h2,h3⟩:=h;injection e with e1 e2 e3
 subst e1 e2 e3;refine⟨rfl,λhn=>?_⟩;obtain⟨g,off,rfl,_,h0,_,h4⟩:=h3 (by omega);exact⟨_,rfl,h0,λj hj=>by rw[Addr.add_lit];exact h4 j hj⟩
theorem Oz.of_ow {base:Nat} {e:TypeId} {n:Nat} (h:Ow w base e v n l) (ho:∀g,v.ownBlock=some g->own g):Oz w own v l:=by
 have hl:=h.len;subst hl;have hb:=h.2;rcases hb with⟨rfl,h0⟩|⟨g,cap,cur,rfl,_,hg,hn,hm,hs,_⟩
 · have:l=[]:=List.eq_nil_of_length_eq_zero h0
   subst this;exact Oz.nil w own
 · have h1:g<w.heap.size:=by
    rcases Nat.lt_or_ge g w.heap.size with h1|h2
    · exact h1
    · rw[Array.getElem?_eq_none h2]at hg;cases hg
   refine⟨_,cap,rfl,hn,hm,λhc=>⟨g,0,rfl,ho g rfl,h1,λj _ hj=>?_,λj hj=>?_⟩⟩
   · have e1:=cell_of_row w g (0+j) cur e (0,0) hg
     have h3:0+j<cur.size:=by rw[hs];omega
     refine⟨?_,by simp[World.frozen?,hg]⟩;rw[e1,Array.getElem?_eq_getElem h3]
     rfl
   · obtain⟨ad,e',_,hc⟩:=(Ow.rd (w:=w) (base:=base) (e:=e) (A:=some ⟨g,0,none⟩) (cap:=cap) h).2 (by omega)
     injection e' with e'
     subst e';have:=hc j hj;rw[Addr.add_lit]at this;exact this
theorem Oz.full {w:World} {own:Nat->Prop} {g n:Nat} {l:List UInt8} {B:Nat} (h:Rd w B (some ⟨g,0,none⟩) n l) (hB:B<=w.heap.size) (hn:n<=1000000) (hg:own g) (h0:0<n):Oz w own (.slice (some ⟨g,0,none⟩) n n) l:=by
 have hl:=h.1;subst hl;obtain⟨ad,e,hb,hc⟩:=h.2 h0;injection e with e
 subst e;refine⟨_,l.length,rfl,Nat.le_refl _,by simp only[maxLen];omega,λ_=>⟨g,0,rfl,hg,Nat.lt_of_lt_of_le hb hB,λj h1 h2=>absurd h1 (by omega),λj hj=>?_⟩⟩;have:=hc j hj;rw[Addr.add_lit]at this;exact this
theorem Oz.cut {A:Option Addr} {n c k:Nat} (h:Oz w own (.slice A n c) l) (hk:k<=n):Oz w own (.slice (if c=k then A else A.map λx=>x.add k) (n-k) (c-k)) (l.drop k):=by
 obtain⟨A',c',e,h1,h2,h3⟩:=h;injection e with e1 e2 e3
 subst e1 e2 e3;refine⟨_,c-k,by rw[List.length_drop],by rw[List.length_drop];omega,by omega,λhc=>?_⟩;obtain⟨g,off,rfl,ho,h0,hs,h4⟩:=h3 (by omega);refine⟨g,off+k,?_,ho,h0,λj hl hj=>?_,λj hj=>?_⟩
 · rw[if_neg (by omega)]
   simp[Addr.add_lit]
 · rw[List.length_drop]at hl
   rw[Nat.add_assoc];exact hs (k+j) (by omega) (by omega)
 · rw[List.length_drop]at hj
   rw[Nat.add_assoc,h4 (k+j) (by omega)];simp
def UF (w:World) (g:Nat):Prop:=∀j,w.frozen? ⟨g,j,none⟩=false
theorem UF.same {g:Nat} (h:UF w g) (hh:w'.heap[g]?=w.heap[g]?):UF w' g:=λj=>(World.frozen?_of_block (a:=⟨g,j,none⟩) hh).trans (h j)
theorem UF.of {g:Nat} {t:TypeId} {cs:Array Value} (h:Blk w g t cs):UF w g:=λj=>h.frozen j
theorem UF.ow {base n:Nat} {e:TypeId} {l:List UInt8} (h:Ow w base e v n l) {g:Nat} (hg:v.ownBlock=some g):UF w g:=by
 rcases h.2 with⟨rfl,_⟩|⟨g',cap,cur,rfl,_,hh,_⟩
 · cases hg
 · have e1:g'=g:=by simpa [Value.ownBlock]using hg
   subst e1;exact UF.of (t:=e) (cs:=cur) hh
def OzF (w:World) (own:Nat->Prop) (v:Value) (l:List UInt8):Prop:=Oz w own v l/\(24<l.length->∀A n c,v= .slice (some A) n c->UF w A.block)
theorem OzF.nil (w:World) (own:Nat->Prop):OzF w own (.slice none 0 0) []:=⟨Oz.nil w own,λh=>absurd h (by decide)⟩
theorem OzF.few (h:Oz w own v l) (hl:l.length<=24):OzF w own v l:=⟨h,λh=>absurd h (by omega)⟩
theorem OzF.of_ow {base:Nat} {e:TypeId} {n:Nat} (h:Ow w base e v n l) (ho:∀g,v.ownBlock=some g->own g):OzF w own v l:=
 ⟨Oz.of_ow h ho,λ_ A n c e=>UF.ow h (by rw[e];rfl)⟩
end
theorem run_app_z {P:Program} {t e:TypeId} (hP:ByteP P t e) (w:World) (ty:TypeId) (own:Nat->Prop) (v:Value) (l:List UInt8) (h:Oz w own v l) (B:Nat) (A:Option Addr) (m c:Nat) (l2:List UInt8) (hr:Rd w B A m l2) (hb:l.length+m<=140737488355328):
 ∃v' w' row,(Builtin.append_ #[t,t] ty #[v,.slice A m c]).run P w= .ok v' w'/\Oz w' (λg=>own g\/(row=none/\g=w.heap.size)) v' (l++l2)/\w.grownBy w' row/\(∀g,row=some g->own g/\g<w.heap.size):=by
 obtain⟨i,hi,hz,h1,h2⟩:=hP.info;obtain⟨A0,c0,rfl,hd,he,ho⟩:=h;have h3:=hr.1;have hw:maxLen=9223372036854775807:=rfl;have hs:Src P i.size t (.slice A m c) m (l2.map bv) w:=by
  rcases A with _|ad
  · obtain⟨rfl,rfl⟩:=hr.none_zero
    exact Src.ofNil _ hP.slice c
  · exact Src.ofSlice _ hP.slice ad m c _ (by simp[h1,h3]) hr.cells bv_one
 have h8:(l2.map bv).length=m:=by simp[h3]
 by_cases h5:l.length+m<=c0
 · by_cases hh:c0=0
   · subst hh
     have hm:m=0:=by omega
     subst hm;have e2:l2=[]:=List.eq_nil_of_length_eq_zero h3;subst e2;have h4:=run_append_nothing (P:=P) w t t ty e i hP.slice hi A0 l.length 0 hd (.slice A 0 c) hs;exact⟨_,w,none,h4,⟨A0,0,by simp,by simpa using hd,he,λh=>absurd h (Nat.lt_irrefl _)⟩,World.grownBy.refl w _,λg e=>by cases e⟩
   · obtain⟨g,off,rfl,hg,hf,h7,h9⟩:=ho (by omega)
     have h6:∀j,j<(l2.map bv).length->(w.cell? ⟨g,off+l.length*i.size+j,none⟩).isSome=true:=λj hj=>by
      rw[h1,Nat.mul_one,Nat.add_assoc];exact(h7 (l.length+j) (by omega) (by omega)).1
     have h4:=run_append_room_src (P:=P) w t t ty e i hP.slice hi g off l.length c0 (.slice A m c) m _ hs h5 h6
      (λj hj=>by rw[h1,Nat.mul_one,Nat.add_assoc];exact(h7 (l.length+j) (by omega) (by omega)).2)
     refine⟨_,_,some g,h4,⟨_,c0,by rw[List.length_append,h3],by rw[List.length_append,h3];exact h5,he,λ_=>⟨g,off,rfl,.inl hg,?_,λj hl hj=>⟨?_,?_⟩,λj hj=>?_⟩⟩,grown_setCells w g _ _,λg' e=>by injection e with e;subst e;exact⟨hg,hf⟩⟩
     · rw[size_setCells];exact hf
     · rw[List.length_append,h3]at hl
       rw[World.cell?_setCells_out g _ _ _ _ (λ_ _=>by rw[h1,h8];show off+j<off+l.length*1\/off+l.length*1+m<=off+j;omega)];exact(h7 j (by omega) hj).1
     · rw[List.length_append,h3]at hl
       rw[World.frozen?_setCells];exact(h7 j (by omega) hj).2
     · rw[List.length_append,h3]at hj
       by_cases hn:l.length<=j
       · have:=World.cell?_setCells_in g (l2.map bv) (off+l.length*i.size) w h6 (j-l.length) (by omega)
         rw[h1,Nat.mul_one,show off+l.length+(j-l.length)=off+j by omega]at this;rw[h1,Nat.mul_one,this,List.getElem_map,List.getD_eq_getElem?_getD,List.getElem?_append_right hn,List.getElem?_eq_getElem (by omega)]
         rfl
       · rw[World.cell?_setCells_out g _ _ _ _ (λ_ _=>by rw[h1,h8];show off+j<off+l.length*1\/off+l.length*1+m<=off+j;omega),h9 j (by omega),List.getD_eq_getElem?_getD,List.getD_eq_getElem?_getD,List.getElem?_append_left (by omega)]
 · have hc:(Builtin.firstCells i.size l.length (.slice A0 l.length c0)).run P w.drew= .ok (l.map bv).toArray w.drew:=by
    rcases Nat.eq_zero_or_pos l.length with h0|h0
    · have e0:l=[]:=List.eq_nil_of_length_eq_zero h0
      subst e0;rcases A0 with _|a0
      · exact run_firstCells_none w.drew i.size 0 0 c0
      · exact run_firstCells_some w.drew i.size 0 a0 0 c0 [] (by simp) (by intro _ _ h';simp at h')
    · obtain⟨g,off,rfl,_,_,_,h9⟩:=ho (by omega)
      refine run_firstCells_some w.drew i.size l.length ⟨g,off,none⟩ l.length c0 _ (by simp[h1]) (λj u hu=>?_);have hj:j<l.length:=by have:=(List.getElem?_eq_some_iff.1 hu).1;simpa using this
      rw[Addr.add_lit];refine(h9 j hj).trans ?_;rw[<-hu,List.getElem?_map,List.getD_eq_getElem?_getD,List.getElem?_eq_getElem hj]
      rfl
   have h4:=run_append_grow_src (P:=P) w t t ty e i _ hP.slice hi hz A0 l.length c0 (l.map bv) hc (.slice A m c) m _ hs (by omega) (by omega) (growslice_fits (by omega) (by rw[h2];omega));have hq:=grownCap_ge w (l.length+m) c0 e;have ht:=grownCap_le_maxLen w (l.length+m) c0 e (by omega);refine⟨_,_,none,h4,⟨_,grownCap w (l.length+m) c0 e,by rw[List.length_append,h3],by rw[List.length_append,h3];exact hq,ht,λ_=>⟨w.heap.size,0,rfl,.inr ⟨rfl,rfl⟩,?_,λj _ hj=>⟨?_,?_⟩,λj hj=>?_⟩⟩,⟨rfl,rfl,rfl,by simp,λk hk _=>Below.heap_alloc w.drew _ k hk⟩,λg e=>by cases e⟩
   · simp
   · have hsz:((l.map bv++l2.map bv).toArray++Builtin.zeroCells (Value.int .u8 0).cells (grownCap w (l.length+m) c0 e-(l.length+m))).size=grownCap w (l.length+m) c0 e:=by
      rw[Array.size_append,List.size_toArray,List.length_append,List.length_map,h8,size_zeroCells];show l.length+m+(grownCap w (l.length+m) c0 e-(l.length+m))*1=_;omega
     have e1:=World.cell?_alloc_new w.drew ((l.map bv++l2.map bv).toArray++Builtin.zeroCells (Value.int .u8 0).cells (grownCap w (l.length+m) c0 e-(l.length+m))) e (0+j);refine(congrArg Option.isSome e1).trans ?_;rw[Array.getElem?_eq_getElem (by rw[hsz];omega)]
     rfl
   · exact World.frozen?_alloc_new w.drew _ _ _
   · rw[List.length_append,h3]at hj
     have e1:=World.cell?_alloc_new w.drew ((l.map bv++l2.map bv).toArray++Builtin.zeroCells (Value.int .u8 0).cells (grownCap w (l.length+m) c0 e-(l.length+m))) e (0+j);refine e1.trans ?_;rw[Array.getElem?_append_left (by simp[h3];omega),<-List.map_append,List.getElem?_toArray,List.getElem?_map,Nat.zero_add,List.getD_eq_getElem?_getD,List.getElem?_eq_getElem (by rw[List.length_append,h3];exact hj)]
     rfl
section
variable {P:Program} {ops:Array Oper} {rest:List Oper} {o:Oper} {a:Act} {Q:Exit->Act->World->Prop} {K:Act->World->Prop} {E:Prop} {t e:TypeId}
theorem wpList_app_z (hP:ByteP P t e) (w:World) (hgd:o.guard=none) (s x:Operand) (ho:o.op= .call {callee:=.builtin .append,args:=#[s,x],argTypes:=#[t,t]})
 (own:Nat->Prop) (v:Value) (l:List UInt8) (hs:a.eval s=v) (h:Oz w own v l) (B:Nat) (A:Option Addr) (m c:Nat) (l2:List UInt8) (hx:a.eval x= .slice A m c) (hr:Rd w B A m l2) (hb:l.length+m<=140737488355328)
 (hK:∀A' c' w' row,Oz w' (λg=>own g\/(row=none/\g=w.heap.size)) (.slice A' (l.length+m) c') (l++l2)->w.grownBy w' row->(∀g,row=some g->own g/\g<w.heap.size)->wpList P ops Q rest (a.put o.dst (.slice A' (l.length+m) c')) w'):wpList P ops Q (o::rest) a w:=by
 refine wpList_plain hgd λK h1=>?_;obtain⟨v',w',row,h0,r1,r2,r3⟩:=run_app_z hP w o.type own v l h B A m c l2 hr hb;obtain⟨A',c',rfl,_,_⟩:=r1.form;rw[List.length_append,hr.1]at h0 r1;unfold Oper.wp execOp;simp only[ho,resolve,invoke,builtin,Sem.run_bind,Sem.run_pure,Result.andThen_ok,List.map_toArray,List.map_cons,List.map_nil,hs,hx,h0];exact h1 _ _ (hK A' c' w' row r1 r2 r3)
theorem step_app_z (hP:ByteP P t e) (w:World) (h1:o.guard=none) (s x:Operand) (ho:o.op= .call {callee:=.builtin .append,args:=#[s,x],argTypes:=#[t,t]})
 (own:Nat->Prop) (v:Value) (l:List UInt8) (hs:a.eval s=v) (h:Oz w own v l) (B:Nat) (A:Option Addr) (m c:Nat) (l2:List UInt8) (hx:a.eval x= .slice A m c) (hr:Rd w B A m l2) (hb:l.length+m<=140737488355328)
 (hK:∀A' c' w' row,Oz w' (λg=>own g\/(row=none/\g=w.heap.size)) (.slice A' (l.length+m) c') (l++l2)->w.grownBy w' row->(∀g,row=some g->own g/\g<w.heap.size)->K (a.put o.dst (.slice A' (l.length+m) c')) w'):
 if Region.wanted o (yielded ops a.tmps)=true then Oper.wp P o a w K Q else E:=by
 have hw:Region.wanted o (yielded ops a.tmps)=true:=by simp[Region.wanted,h1]
 rw[if_pos hw];obtain⟨v',w',row,h0,r1,r2,r3⟩:=run_app_z hP w o.type own v l h B A m c l2 hr hb;obtain⟨A',c',rfl,_,_⟩:=r1.form;rw[List.length_append,hr.1]at h0 r1;unfold Oper.wp execOp;simp only[ho,resolve,invoke,builtin,Sem.run_bind,Sem.run_pure,Result.andThen_ok,List.map_toArray,List.map_cons,List.map_nil,hs,hx,h0];exact hK A' c' w' row r1 r2 r3
end
end Go.Own
end

section
namespace Go.Own.Cx
open Go Go.RowKit Go.Own
inductive Tg where
 |no|cn|fed|out|ev|evd|inw|outw|map|lst|blk|enc|dec
 |st (id k:Nat)
 deriving DecidableEq
structure EvV where
 kind:Nat:=0
 stream:Nat:=0
 code:Nat:=0
 last:Nat:=0
 fin:Bool:=false
 la:Option Addr:=none
 lc:Nat:=0
 ba:Option Addr:=none
 bc:Nat:=0
 l:List Hd.HdrV:=[]
 by_:List UInt8:=[]
def evC (e:EvV):Array Value:=#[.int .i64 (e.kind:Nat),.int .i64 (e.stream:Nat),.int .i64 (e.code:Nat),.int .i64 (e.last:Nat),.bool e.fin,.slice e.la e.l.length e.lc,.slice e.ba e.by_.length e.bc]
structure Sv where
 id:Nat
 own:Nat:=0
 other:Nat:=0
 inw:Int
 outw:Int
 waits:List UInt8:=[]
 trails:Bool:=false
 held:Nat:=0
structure HpM where
 dt:Hk.TM:={}
 dgone:Bool:=false
 et:Hk.TM:={}
 asked:Bool:=false
 least:Nat:=0
structure Cv where
 side:Nat
 cw:Int
 cs:Int
 fed:List UInt8:=[]
 greeted:Bool:=false
 preface:Nat:=0
 out:List UInt8:=[]
 evs:List EvV:=[]
 inw:Int:=65535
 outw:Int:=65535
 window:Int:=65535
 others:Int:=65535
 limit:Int:=2147483647
 acked:Bool:=false
 last:Nat:=0
 strs:List Sv:=[]
 list:Option (Nat×Bool×List UInt8):=none
 bye:Bool:=false
 gone:Bool:=false
 dead:Bool:=false
 code:Nat:=0
 hp:HpM:={}
structure SLay where
 sb:Nat:=0
 ib:Nat:=0
 ob:Nat:=0
 pb:Nat:=0
 rb:Nat:=0
 waits:Value:=.slice none 0 0
 trl:Value:=.slice none 0 0
structure Lay where
 fed:Value:=.slice none 0 0
 out:Value:=.slice none 0 0
 ev:Value:=.slice none 0 0
 ib:Nat
 ob:Nat
 mb:Nat
 list:Value:=.pointer none
 enc:Nat
 dec:Nat
 s:Nat->SLay:=λ_=>{}
def cnC (M:Cv) (L:Lay):Array Value:=
 #[.int .i64 (M.side:Nat),.int .i64 M.cw,.int .i64 M.cs,L.fed,.bool M.greeted,.int .i64 (M.preface:Nat),L.out,L.ev,.pointer (some ⟨L.ib,0,none⟩),.pointer (some ⟨L.ob,0,none⟩),.int .i64 M.window,.int .i64 M.others,.int .i64 M.limit,.bool M.acked,.int .i64 (M.last:Nat),.map (some L.mb),L.list,.bool M.bye,.bool M.gone,.bool M.dead,.int .i64 (M.code:Nat),.pointer (some ⟨L.enc,0,none⟩),.pointer (some ⟨L.dec,0,none⟩)]
def stC (s:Sv) (L:SLay):Array Value:=
 #[.int .i64 (s.id:Nat),.int .i64 (s.own:Nat),.int .i64 (s.other:Nat),.pointer (some ⟨L.ib,0,none⟩),.pointer (some ⟨L.ob,0,none⟩),.pointer (some ⟨L.pb,0,none⟩),L.waits,.bool s.trails,L.trl,.int .i64 (s.held:Nat)]
end Go.Own.Cx
end

section
namespace Go.Own.Cx
open Go Go.RowKit Go.Own Go.Own.Im
def hdrC (h:Hd.HdrV):Array Value:=#[.string h.name,.string h.value,.bool h.never]
def hsz (h:Hd.HdrV):Nat:=h.name.size+h.value.size+32
def hszs (l:List Hd.HdrV):Nat:=(l.map hsz).sum
structure Fr (w:World) (ow:Nat->Tg) (w':World) (ow':Nat->Tg):Prop where
 os:w'.os=w.os
 tape:w'.tape=w.tape
 output:w'.output=w.output
 size:w.heap.size<=w'.heap.size
 keep:∀g,g<w.heap.size->ow g= .no->w'.heap[g]?=w.heap[g]?
 no:∀g,g<w.heap.size->ow g= .no->ow' g= .no
section
variable {w w1 w2:World} {ow ow1 ow2:Nat->Tg}
theorem Fr.refl (w:World) (ow:Nat->Tg):Fr w ow w ow:=⟨rfl,rfl,rfl,Nat.le_refl _,λ_ _ _=>rfl,λ_ _ h=>h⟩
theorem Fr.trans (h:Fr w ow w1 ow1) (k:Fr w1 ow1 w2 ow2):Fr w ow w2 ow2:=
 ⟨k.os.trans h.os,k.tape.trans h.tape,k.output.trans h.output,Nat.le_trans h.size k.size,
   λg hg ho=>(k.keep g (Nat.lt_of_lt_of_le hg h.size) (h.no g hg ho)).trans (h.keep g hg ho),λg hg ho=>k.no g (Nat.lt_of_lt_of_le hg h.size) (h.no g hg ho)⟩
theorem Fr.below (h:Below w.heap.size w w1) (ow:Nat->Tg):Fr w ow w1 ow:=⟨h.os,h.tape,h.output,h.size,λg hg _=>h.block g hg,λ_ _ h=>h⟩
theorem Fr.grown {row:Option Nat} (h:w.grownBy w1 row) (hr:∀g,row=some g->ow g≠ .no):Fr w ow w1 ow:=
 ⟨h.os,h.tape,h.output,h.size,λg hg ho=>h.block g hg (λe=>hr g e.symm ho),λ_ _ h=>h⟩
theorem Fr.drew (h:Fr w ow w1 ow1):Fr w ow w1.drew ow1:=⟨h.os,h.tape,h.output,h.size,h.keep,h.no⟩
theorem Fr.blk {g:Nat} {t:TypeId} {cs:Array Value} (h:Fr w ow w1 ow1) (hb:Blk w g t cs) (ho:ow g= .no):Blk w1 g t cs:=(h.keep g hb.lt ho).trans hb
theorem Fr.rd {B n:Nat} {A:Option Addr} {l:List UInt8} (h:Fr w ow w1 ow1) (hr:Rd w B A n l) (hB:B<=w.heap.size) (ho:0<n->∀ad,A=some ad->ow ad.block= .no):Rd w1 B A n l:=
 ⟨hr.1,λhn=>by
   obtain⟨ad,e,hb,hc⟩:=hr.2 hn;refine⟨ad,e,hb,λj hj=>?_⟩;exact(World.cell?_of_block (a:=ad.add j) (by rw[add_block];exact h.keep ad.block (by omega) (ho hn ad e))).trans (hc j hj)⟩
end
theorem _root_.Go.Own.Oz.turn {w w':World} {own own':Nat->Prop} {v:Value} {l:List UInt8} (h:Oz w own v l) (hk:∀g,g<w.heap.size->own g->w'.heap[g]?=w.heap[g]?/\own' g) (hs:w.heap.size<=w'.heap.size):Oz w' own' v l:=by
 obtain⟨A,c,rfl,h1,h2,h3⟩:=h;refine⟨A,c,rfl,h1,h2,λhc=>?_⟩;obtain⟨g,off,e,ho,h0,h4,h5⟩:=h3 hc;have hh:=(hk g h0 ho).1;have e1:∀j,w'.cell? ⟨g,j,none⟩=w.cell? ⟨g,j,none⟩:=λj=>World.cell?_of_block (a:=⟨g,j,none⟩) hh;have e2:∀j,w'.frozen? ⟨g,j,none⟩=w.frozen? ⟨g,j,none⟩:=λj=>World.frozen?_of_block (a:=⟨g,j,none⟩) hh;exact⟨g,off,e,(hk g h0 ho).2,Nat.lt_of_lt_of_le h0 hs,λj hl hj=>by rw[e1,e2];exact h4 j hl hj,λj hj=>by rw[e1];exact h5 j hj⟩
theorem _root_.Go.Own.OzF.turn {w w':World} {own own':Nat->Prop} {v:Value} {l:List UInt8} (h:OzF w own v l) (hk:∀g,g<w.heap.size->own g->w'.heap[g]?=w.heap[g]?/\own' g) (hs:w.heap.size<=w'.heap.size):OzF w' own' v l:=by
 refine⟨h.1.turn hk hs,λhl A n c e=>?_⟩;obtain⟨A',c',e1,h1,_,h3⟩:=h.1;have e2:=e.symm.trans e1;injection e2 with e2 _ e3
 obtain⟨g,off,e4,ho,h0,_⟩:=h3 (by omega);rw[<-e2]at e4;injection e4 with e4
 have hu:=h.2 hl A n c e;rw[e4]at hu ⊢;exact hu.same (hk g h0 ho).1
def upd (ow:Nat->Tg) (g:Nat) (t:Tg):Nat->Tg:=λj=>if j=g then t else ow j
theorem upd_same (ow:Nat->Tg) (g:Nat) (t:Tg):upd ow g t g=t:=by simp[upd]
theorem upd_other (ow:Nat->Tg) {g j:Nat} (t:Tg) (h:j≠g):upd ow g t j=ow j:=by simp[upd,h]
end Go.Own.Cx
namespace Go.Proofs.YtkpppjhbmnfmkaaGreatDoor
open Go.RowKit Go.Own Go.Own.Im Go.Own.Cx
def TabS (w:World) (own:Nat->Prop) (g:Nat) (E:List Hd.HdrV) (most:Nat):Prop:=
 ∃(r old:Nat) (cs:Array Value),Blk w g 179 #[.slice (some ⟨r,0,none⟩) 128 128,.int .i64 (old:Nat),.int .i64 (E.length:Nat),.int .i64 (hszs E:Nat),.int .i64 (most:Nat)]/\Blk w r 63 cs/\own g/\own r/\cs.size=384/\old<128/\hszs E<=most/\most<=4096/\
  (∀k h,E[k]?=some h->cs[(old+k) % 128*3]?=some (.string h.name)/\cs[(old+k) % 128*3+1]?=some (.string h.value)/\cs[(old+k) % 128*3+2]?=some (.bool h.never))/\
  ∀j,j<128->∃h:Hd.HdrV,cs[j*3]?=some (.string h.name)/\cs[j*3+1]?=some (.string h.value)/\cs[j*3+2]?=some (.bool h.never)
def EncS (w:World) (own:Nat->Prop) (e:Nat) (H:HpM):Prop:=∃tb:Nat,Blk w e 135 #[.pointer (some ⟨tb,0,none⟩),.int .i64 (H.least:Nat),.bool H.asked]/\own e/\H.least<=4096/\TabS w own tb H.et.E H.et.most
def DecS (w:World) (own:Nat->Prop) (d:Nat) (H:HpM):Prop:=∃tb:Nat,Blk w d 137 #[.pointer (some ⟨tb,0,none⟩),.int .i64 4096,.bool H.dgone]/\own d/\TabS w own tb H.dt.E H.dt.most
structure SN (w:World) (ow:Nat->Tg) (co:Nat) (l:SLay) (s:Sv):Prop where
 blk:Blk w l.sb 122 (stC s l)
 tb:ow l.sb= .st s.id 0
 inw:Blk w l.ib 177 #[.int .i64 s.inw]
 ti:ow l.ib= .st s.id 1
 outw:Blk w l.ob 177 #[.int .i64 s.outw]
 tu:ow l.ob= .st s.id 2
 pair:Blk w l.pb 206 #[.slice (some ⟨l.rb,0,none⟩) 2 2]
 tp:ow l.pb= .st s.id 3
 row:Blk w l.rb 75 #[.pointer (some ⟨co,0,none⟩),.pointer (some ⟨l.ob,0,none⟩)]
 tr:ow l.rb= .st s.id 4
 waits:Oz w (λg=>ow g= .st s.id 5) l.waits s.waits
structure EvOk (w:World) (ow:Nat->Tg) (e:EvV):Prop where
 lst:e.l.length<=e.lc/\Cm.RS hdrC 3 w w.heap.size e.la e.l.length e.l/\(0<e.l.length->∀ad,e.la=some ad->ow ad.block= .evd)
 byt:e.by_.length<=e.bc/\Rd w w.heap.size e.ba e.by_.length e.by_/\(0<e.by_.length->∀ad,e.ba=some ad->ow ad.block= .evd/\UF w ad.block)
structure EvS (w:World) (ow:Nat->Tg) (v:Value) (l:List EvV):Prop where
 row:Cm.Ew evC 43 7 w 0 v l
 own:∀g,v.ownBlock=some g->ow g= .ev
 each:∀e∈l,EvOk w ow e
def LsS (w:World) (ow:Nat->Tg) (v:Value):Option (Nat×Bool×List UInt8)->Prop
 |none=>v= .pointer none
 |some p=>∃g bv,v= .pointer (some ⟨g,0,none⟩)/\ow g= .lst/\Blk w g 195 #[.int .i64 (p.1:Nat),.bool p.2.1,bv]/\Oz w (λj=>ow j= .blk) bv p.2.2
def sptr (L:Lay) (i:Nat):Value:=.pointer (some ⟨(L.s i).sb,0,none⟩)
structure CP (w:World) (ow:Nat->Tg) (fed out:List UInt8) (evs:List EvV) (inw outw:Int) (strs:List Sv) (list:Option (Nat×Bool×List UInt8)) (H:HpM) (L:Lay):Prop where
 fed:Oz w (λg=>ow g= .fed) L.fed fed
 out:OzF w (λg=>ow g= .out) L.out out
 ev:EvS w ow L.ev evs
 inw:Blk w L.ib 177 #[.int .i64 inw]
 ti:ow L.ib= .inw
 outw:Blk w L.ob 177 #[.int .i64 outw]
 tu:ow L.ob= .outw
 map:SM Tryz.prog 3 w L.mb (strs.map (·.id)) (sptr L)
 tm:ow L.mb= .map
 strs:∀s∈strs,SN w ow L.ob (L.s s.id) s
 lst:LsS w ow L.list list
 enc:EncS w (λg=>ow g= .enc) L.enc H
 dec:DecS w (λg=>ow g= .dec) L.dec H
structure CN (w:World) (ow:Nat->Tg) (b:Nat) (M:Cv) (L:Lay):Prop where
 blk:Blk w b 80 (cnC M L)
 tb:ow b= .cn
 p:CP w ow M.fed M.out M.evs M.inw M.outw M.strs M.list M.hp L
 new:∀g,w.heap.size<=g->ow g= .no
section
variable {w w':World} {ow ow':Nat->Tg}
theorem TabS.keep {own own':Nat->Prop} {g:Nat} {E:List Hd.HdrV} {m:Nat} (h:TabS w own g E m) (hk:∀g,own g->g<w.heap.size->w'.heap[g]?=w.heap[g]?) (ho:∀g,own g->g<w.heap.size->own' g):TabS w' own' g E m:=by
 obtain⟨r,old,cs,h1,h2,h3,h4,h5⟩:=h;exact⟨r,old,cs,(hk g h3 h1.lt).trans h1,(hk r h4 h2.lt).trans h2,ho g h3 h1.lt,ho r h4 h2.lt,h5⟩
theorem EncS.keep {own own':Nat->Prop} {g:Nat} {H:HpM} (h:EncS w own g H) (hk:∀g,own g->g<w.heap.size->w'.heap[g]?=w.heap[g]?) (ho:∀g,own g->g<w.heap.size->own' g):EncS w' own' g H:=by
 obtain⟨tb,h1,h2,h3,h4⟩:=h;exact⟨tb,(hk g h2 h1.lt).trans h1,ho g h2 h1.lt,h3,h4.keep hk ho⟩
theorem DecS.keep {own own':Nat->Prop} {g:Nat} {H:HpM} (h:DecS w own g H) (hk:∀g,own g->g<w.heap.size->w'.heap[g]?=w.heap[g]?) (ho:∀g,own g->g<w.heap.size->own' g):DecS w' own' g H:=by
 obtain⟨tb,h1,h2,h4⟩:=h;exact⟨tb,(hk g h2 h1.lt).trans h1,ho g h2 h1.lt,h4.keep hk ho⟩
theorem SN.keep {co:Nat} {l:SLay} {s:Sv} (h:SN w ow co l s) (hs:w.heap.size<=w'.heap.size) (hk:∀g k,ow g= .st s.id k->g<w.heap.size->w'.heap[g]?=w.heap[g]?/\ow' g= .st s.id k):SN w' ow' co l s:=
 ⟨(hk _ _ h.tb h.blk.lt).1.trans h.blk,(hk _ _ h.tb h.blk.lt).2,(hk _ _ h.ti h.inw.lt).1.trans h.inw,(hk _ _ h.ti h.inw.lt).2,(hk _ _ h.tu h.outw.lt).1.trans h.outw,(hk _ _ h.tu h.outw.lt).2,
   (hk _ _ h.tp h.pair.lt).1.trans h.pair,(hk _ _ h.tp h.pair.lt).2,(hk _ _ h.tr h.row.lt).1.trans h.row,(hk _ _ h.tr h.row.lt).2,
   h.waits.turn (λg hg ho=>hk g 5 ho hg) hs⟩
theorem EvOk.keep {e:EvV} (h:EvOk w ow e) (hs:w.heap.size<=w'.heap.size) (hk:∀g,ow g= .evd->g<w.heap.size->w'.heap[g]?=w.heap[g]?/\ow' g= .evd):EvOk w' ow' e:=by
 obtain⟨⟨h1,h2,h3⟩,⟨h8,h6,h5⟩⟩:=h;refine⟨⟨h1,?_,λhl ad ha=>?_⟩,⟨h8,?_,λhl ad ha=>?_⟩⟩
 · rcases Nat.eq_zero_or_pos e.l.length with h0|h0
   · exact⟨rfl,λj x hx=>by have:=(List.getElem?_eq_some_iff.1 hx).1;omega⟩
   · exact(h2.keep hs λad ha _ h7=>(hk _ (h3 h0 ad ha) h7).1).more hs
 · obtain⟨ad',h4,_,h7,_⟩:=h2.2 0 _ (List.getElem?_eq_getElem hl)
   rw[ha]at h4;injection h4 with h4;subst h4
   exact(hk _ (h3 hl ad ha) h7).2
 · refine⟨h6.1,λhn=>?_⟩
   obtain⟨ad,ha,hb,hc⟩:=h6.2 hn;exact⟨ad,ha,Nat.lt_of_lt_of_le hb hs,λj hj=>(World.cell?_of_block (a:=ad.add j) (by rw[add_block];exact(hk _ (h5 hn ad ha).1 hb).1)).trans (hc j hj)⟩
 · obtain⟨ad',h4,hb,_⟩:=h6.2 hl
   rw[ha]at h4;injection h4 with h4;subst h4
   exact⟨(hk _ (h5 hl ad ha).1 hb).2,(h5 hl ad ha).2.same (hk _ (h5 hl ad ha).1 hb).1⟩
theorem EvS.keep {v:Value} {l:List EvV} (h:EvS w ow v l) (hs:w.heap.size<=w'.heap.size) (hk:∀g,ow g= .ev->g<w.heap.size->w'.heap[g]?=w.heap[g]?/\ow' g= .ev) (h1:∀g,ow g= .evd->g<w.heap.size->w'.heap[g]?=w.heap[g]?/\ow' g= .evd):EvS w' ow' v l:=by
 refine⟨⟨h.row.1,?_⟩,λg e=>?_,λe he=>(h.each e he).keep hs h1⟩
 · rcases h.row.2 with h0|⟨g,cap,cur,rfl,hb,hg,r⟩
   · exact .inl h0
   · exact .inr ⟨g,cap,cur,rfl,hb,(hk g (h.own g rfl) (Array.getElem?_eq_some_iff.1 hg).1).1.trans hg,r⟩
 · exact(hk g (h.own g e) (h.row.lt g e).2).2
theorem LsS.keep {v:Value}:∀{o:Option (Nat×Bool×List UInt8)},LsS w ow v o->w.heap.size<=w'.heap.size->(∀g,(ow g= .lst\/ow g= .blk)->g<w.heap.size->w'.heap[g]?=w.heap[g]?/\ow' g=ow g)->LsS w' ow' v o
 |none,h,_,_=>h
 |some _,⟨g,bv,e,h1,h2,h3⟩,hs,hk=>⟨g,bv,e,(hk g (.inl h1) h2.lt).2.trans h1,(hk g (.inl h1) h2.lt).1.trans h2,h3.turn (λj hj ho=>⟨(hk j (.inr ho) hj).1,(hk j (.inr ho) hj).2.trans ho⟩) hs⟩
theorem CP.keep {fed out:List UInt8} {evs:List EvV} {inw outw:Int} {strs:List Sv} {list:Option (Nat×Bool×List UInt8)} {H:HpM} {L:Lay} (h:CP w ow fed out evs inw outw strs list H L) (hs:w.heap.size<=w'.heap.size)
 (hk:∀g,ow g≠ .no->ow g≠ .cn->g<w.heap.size->w'.heap[g]?=w.heap[g]?/\ow' g=ow g):CP w' ow' fed out evs inw outw strs list H L:=by
 have k:∀(t:Tg),t≠ .no->t≠ .cn->∀g,ow g=t->g<w.heap.size->w'.heap[g]?=w.heap[g]?/\ow' g=t:=λt h1 h2 g hg h0=>by
  have:=hk g (by rw[hg];exact h1) (by rw[hg];exact h2) h0;exact⟨this.1,this.2.trans hg⟩
 refine⟨h.fed.turn (λg a b=>k .fed (by decide) (by decide) g b a) hs,h.out.turn (λg a b=>k .out (by decide) (by decide) g b a) hs,h.ev.keep hs (k .ev (by decide) (by decide)) (k .evd (by decide) (by decide)),
  (k .inw (by decide) (by decide) _ h.ti h.inw.lt).1.trans h.inw,(k .inw (by decide) (by decide) _ h.ti h.inw.lt).2,(k .outw (by decide) (by decide) _ h.tu h.outw.lt).1.trans h.outw,(k .outw (by decide) (by decide) _ h.tu h.outw.lt).2,
  h.map.keep (k .map (by decide) (by decide) _ h.tm h.map.lt).1,(k .map (by decide) (by decide) _ h.tm h.map.lt).2,λs hm=>(h.strs s hm).keep hs λg j hg h0=>k (.st s.id j) (by simp) (by simp) g hg h0,
  h.lst.keep hs (λg hg h0=>?_),h.enc.keep (λg a b=>(k .enc (by decide) (by decide) g a b).1) (λg a b=>(k .enc (by decide) (by decide) g a b).2),h.dec.keep (λg a b=>(k .dec (by decide) (by decide) g a b).1) (λg a b=>(k .dec (by decide) (by decide) g a b).2)⟩
 rcases hg with hg|hg
 · exact⟨(k .lst (by decide) (by decide) g hg h0).1,(k .lst (by decide) (by decide) g hg h0).2.trans hg.symm⟩
 · exact⟨(k .blk (by decide) (by decide) g hg h0).1,(k .blk (by decide) (by decide) g hg h0).2.trans hg.symm⟩
theorem CN.keep {b:Nat} {M:Cv} {L:Lay} (h:CN w ow b M L) (hs:w.heap.size<=w'.heap.size) (hk:∀g,ow g≠ .no->g<w.heap.size->w'.heap[g]?=w.heap[g]?):CN w' ow b M L:=
 ⟨(hk b (by rw[h.tb];decide) h.blk.lt).trans h.blk,h.tb,h.p.keep hs λg a _ c=>⟨hk g a c,rfl⟩,λg hg=>h.new g (Nat.le_trans hs hg)⟩
theorem CN.below {b:Nat} {M:Cv} {L:Lay} (h:CN w ow b M L) (hb:Below w.heap.size w w'):CN w' ow b M L:=h.keep hb.size λg _ hg=>hb.block g hg
theorem CN.alloc {b:Nat} {M:Cv} {L:Lay} (h:CN w ow b M L) (o:Obj):CN (w.alloc o) ow b M L:=h.below ((Below.refl _ _).alloc (Nat.le_refl _) o)
theorem CN.drew {b:Nat} {M:Cv} {L:Lay} (h:CN w ow b M L):CN w.drew ow b M L:=h.keep (Nat.le_refl _) λ_ _ _=>rfl
theorem CN.cell {b:Nat} {M M':Cv} {L L':Lay} (h:CN w ow b M L) (i:Nat) (v:Value) (hc:(cnC M L).setIfInBounds i v=cnC M' L') (hp:CP w ow M'.fed M'.out M'.evs M'.inw M'.outw M'.strs M'.list M'.hp L'):
 CN (w.setCell ⟨b,i,none⟩ v) ow b M' L'/\Fr w ow (w.setCell ⟨b,i,none⟩ v) ow:=by
 have hsz:(w.setCell ⟨b,i,none⟩ v).heap.size=w.heap.size:=by simp[World.setCell]
 refine⟨⟨hc▸h.blk.put i v,h.tb,hp.keep (by omega) λg _ hn _=>⟨Below.heap_setCell w _ _ g (λe=>hn (by rw[e];exact h.tb)),rfl⟩,λg hg=>h.new g (by omega)⟩,?_⟩;exact Fr.grown (grown_setCell (World.grownBy.refl w (some b)) i v) λg e=>by injection e with e;subst e;rw[h.tb];decide
end
end Go.Proofs.YtkpppjhbmnfmkaaGreatDoor
end

section
namespace Go.Proofs.YtkpppjhbmnfmkaaGreatDoor
open Go.RowKit Go.Own Go.Own.Im Go.Own.Cx
structure Kp (T:Tg->Prop) (w:World) (ow:Nat->Tg) (w':World) (ow':Nat->Tg):Prop where
 size:w.heap.size<=w'.heap.size
 keep:∀g,ow g≠ .no->¬T (ow g)->g<w.heap.size->w'.heap[g]?=w.heap[g]?/\ow' g=ow g
section
variable {T:Tg->Prop} {w w':World} {ow ow':Nat->Tg} {fed out:List UInt8} {evs:List EvV} {inw outw:Int} {strs:List Sv} {list:Option (Nat×Bool×List UInt8)} {H:HpM} {L:Lay}
theorem Kp.at_ (k:Kp T w ow w' ow') (t:Tg) (hn:t≠ .no) (ht:¬T t):∀g,ow g=t->g<w.heap.size->w'.heap[g]?=w.heap[g]?/\ow' g=t:=λg hg h0=>by
 have:=k.keep g (by rw[hg];exact hn) (by rw[hg];exact ht) h0;exact⟨this.1,this.2.trans hg⟩
theorem CP.fedK (h:CP w ow fed out evs inw outw strs list H L) (k:Kp T w ow w' ow') (ht:¬T .fed):Oz w' (λg=>ow' g= .fed) L.fed fed:=h.fed.turn (λg a b=>k.at_ .fed (by decide) ht g b a) k.size
theorem CP.outK (h:CP w ow fed out evs inw outw strs list H L) (k:Kp T w ow w' ow') (ht:¬T .out):OzF w' (λg=>ow' g= .out) L.out out:=h.out.turn (λg a b=>k.at_ .out (by decide) ht g b a) k.size
theorem CP.evK (h:CP w ow fed out evs inw outw strs list H L) (k:Kp T w ow w' ow') (ht:¬T .ev) (ht2:¬T .evd):EvS w' ow' L.ev evs:=h.ev.keep k.size (k.at_ .ev (by decide) ht) (k.at_ .evd (by decide) ht2)
theorem CP.inwK (h:CP w ow fed out evs inw outw strs list H L) (k:Kp T w ow w' ow') (ht:¬T .inw):Blk w' L.ib 177 #[.int .i64 inw]/\ow' L.ib= .inw:=⟨(k.at_ .inw (by decide) ht _ h.ti h.inw.lt).1.trans h.inw,(k.at_ .inw (by decide) ht _ h.ti h.inw.lt).2⟩
theorem CP.outwK (h:CP w ow fed out evs inw outw strs list H L) (k:Kp T w ow w' ow') (ht:¬T .outw):Blk w' L.ob 177 #[.int .i64 outw]/\ow' L.ob= .outw:=⟨(k.at_ .outw (by decide) ht _ h.tu h.outw.lt).1.trans h.outw,(k.at_ .outw (by decide) ht _ h.tu h.outw.lt).2⟩
theorem CP.mapK (h:CP w ow fed out evs inw outw strs list H L) (k:Kp T w ow w' ow') (ht:¬T .map):SM Tryz.prog 3 w' L.mb (strs.map (·.id)) (sptr L)/\ow' L.mb= .map:=⟨h.map.keep (k.at_ .map (by decide) ht _ h.tm h.map.lt).1,(k.at_ .map (by decide) ht _ h.tm h.map.lt).2⟩
theorem CP.strK (h:CP w ow fed out evs inw outw strs list H L) (k:Kp T w ow w' ow') (s:Sv) (hs:s∈strs) (ht:∀j,¬T (.st s.id j)):SN w' ow' L.ob (L.s s.id) s:=(h.strs s hs).keep k.size λg j hg h0=>k.at_ (.st s.id j) (by simp) (ht j) g hg h0
theorem CP.lstK (h:CP w ow fed out evs inw outw strs list H L) (k:Kp T w ow w' ow') (h1:¬T .lst) (h2:¬T .blk):LsS w' ow' L.list list:=h.lst.keep k.size λg hg h0=>by
 rcases hg with hg|hg
 · exact⟨(k.at_ .lst (by decide) h1 g hg h0).1,(k.at_ .lst (by decide) h1 g hg h0).2.trans hg.symm⟩
 · exact⟨(k.at_ .blk (by decide) h2 g hg h0).1,(k.at_ .blk (by decide) h2 g hg h0).2.trans hg.symm⟩
theorem CP.encK (h:CP w ow fed out evs inw outw strs list H L) (k:Kp T w ow w' ow') (ht:¬T .enc):EncS w' (λg=>ow' g= .enc) L.enc H:=h.enc.keep (λg a b=>(k.at_ .enc (by decide) ht g a b).1) λg a b=>(k.at_ .enc (by decide) ht g a b).2
theorem CP.decK (h:CP w ow fed out evs inw outw strs list H L) (k:Kp T w ow w' ow') (ht:¬T .dec):DecS w' (λg=>ow' g= .dec) L.dec H:=h.dec.keep (λg a b=>(k.at_ .dec (by decide) ht g a b).1) λg a b=>(k.at_ .dec (by decide) ht g a b).2
theorem CN.blkK {b:Nat} {M:Cv} (h:CN w ow b M L) (k:Kp T w ow w' ow') (ht:¬T .cn):Blk w' b 80 (cnC M L)/\ow' b= .cn:=⟨(k.at_ .cn (by decide) ht _ h.tb h.blk.lt).1.trans h.blk,(k.at_ .cn (by decide) ht _ h.tb h.blk.lt).2⟩
theorem Kp.row {b:Nat} {M:Cv} (h:CN w ow b M L) {row:Option Nat} {t:Tg} (hg:w.grownBy w' row) (hr:∀g,row=some g->ow g=t):Kp (λx=>x=t) w ow w' ow:=
 ⟨hg.size,λg _ ht h0=>⟨hg.block g h0 (λe=>ht (hr g e.symm)),rfl⟩⟩
theorem Kp.rowNew {b:Nat} {M:Cv} (h:CN w ow b M L) {row:Option Nat} {t:Tg} (hg:w.grownBy w' row) (hr:∀g,row=some g->ow g=t) (j:Nat) (hj:w.heap.size<=j):Kp (λx=>x=t) w ow w' (upd ow j t):=
 ⟨hg.size,λg _ ht h0=>⟨hg.block g h0 (λe=>ht (hr g e.symm)),upd_other _ _ (by omega)⟩⟩
end
end Go.Proofs.YtkpppjhbmnfmkaaGreatDoor
end

section
namespace Go.Proofs.YtkpppjhbmnfmkaaGreatDoor
open Go.RowKit Go.Own Go.Own.Im Go.Own.Cx
section
variable {w wA w8:World} {ow:Nat->Tg} {b:Nat} {M:Cv} {L:Lay} {row:Option Nat} {t:Tg}
theorem CN.apped (h:CN wA ow b M L) (hg:wA.grownBy w8 row) (hr:∀g,row=some g->ow g=t/\g<wA.heap.size) (h4:t≠ .no):∃ow',Kp (λx=>x=t) wA ow w8 ow'/\Fr wA ow w8 ow'/\(∀g,w8.heap.size<=g->ow' g= .no)/\∀g,g<w8.heap.size->(ow g=t\/(row=none/\g=wA.heap.size))->ow' g=t:=by
 have hs:=hg.size;have h0:Fr wA ow w8 ow:=Fr.grown hg λg e=>by rw[(hr g e).1];exact h4
 by_cases hc:row=none/\wA.heap.size<w8.heap.size
 · refine⟨upd ow wA.heap.size t,Kp.rowNew h hg (λg e=>(hr g e).1) _ (Nat.le_refl _),⟨h0.os,h0.tape,h0.output,h0.size,h0.keep,λg h3 ho=>by rw[upd_other _ _ (by omega)];exact ho⟩,λg h5=>by rw[upd_other _ _ (by omega)];exact h.new g (by omega),λg h3 ho=>?_⟩
   by_cases e:g=wA.heap.size
   · rw[e];exact upd_same _ _ _
   · rw[upd_other _ _ e]
     rcases ho with ho|⟨_,ho⟩
     · exact ho
     · exact absurd ho e
 · refine⟨ow,Kp.row h hg (λg e=>(hr g e).1),h0,λg h5=>h.new g (by omega),λg h3 ho=>?_⟩
   rcases ho with ho|⟨h1,h2⟩
   · exact ho
   · exact absurd ⟨h1,by omega⟩ hc
theorem CN.feeds (h:CN wA ow b M L) {v:Value} {l:List UInt8} (hO:Oz w8 (λg=>ow g= .fed\/(row=none/\g=wA.heap.size)) v l) (hg:wA.grownBy w8 row) (hr:∀g,row=some g->ow g= .fed/\g<wA.heap.size):
 ∃ow' L',CN (w8.setCell ⟨b,3,none⟩ v) ow' b {M with fed:=l} L'/\Fr wA ow (w8.setCell ⟨b,3,none⟩ v) ow'/\L'.s=L.s:=by
 obtain⟨ow',k,h3,h1,h2⟩:=h.apped hg hr (by decide);have h0:=h.blkK k (by decide);have hz:Oz w8 (λg=>ow' g= .fed) v l:=hO.owned h2;have h4:CP w8 ow' l M.out M.evs M.inw M.outw M.strs M.list M.hp {L with fed:=v}:=
  ⟨hz,h.p.outK k (by decide),h.p.evK k (by decide) (by decide),(h.p.inwK k (by decide)).1,(h.p.inwK k (by decide)).2,(h.p.outwK k (by decide)).1,(h.p.outwK k (by decide)).2,(h.p.mapK k (by decide)).1,(h.p.mapK k (by decide)).2,
    λs hs=>h.p.strK k s hs (by intro j;simp),h.p.lstK k (by decide) (by decide),h.p.encK k (by decide),h.p.decK k (by decide)⟩
 have hsz:(w8.setCell ⟨b,3,none⟩ v).heap.size=w8.heap.size:=by simp[World.setCell]
 refine⟨ow',{L with fed:=v},⟨h0.1.put 3 _,h0.2,h4.keep (by omega) λg _ hn _=>⟨Below.heap_setCell w8 _ _ g (λe=>hn (by rw[e];exact h0.2)),rfl⟩,λg h5=>h1 g (by omega)⟩,h3.trans ?_,rfl⟩;exact Fr.grown (grown_setCell (World.grownBy.refl w8 (some b)) 3 _) λg e=>by injection e with e;subst e;rw[h0.2];decide
theorem CN.blocks (h:CN wA ow b M L) {gp id:Nat} {fin:Bool} {l0 l:List UInt8} {v v0:Value} (hM:M.list=some (id,fin,l0)) (hL:L.list= .pointer (some ⟨gp,0,none⟩)) (h5:ow gp= .lst) (hb:Blk wA gp 195 #[.int .i64 (id:Nat),.bool fin,v0])
 (hO:Oz w8 (λg=>ow g= .blk\/(row=none/\g=wA.heap.size)) v l) (hg:wA.grownBy w8 row) (hr:∀g,row=some g->ow g= .blk/\g<wA.heap.size):
 ∃ow',CN (w8.setCell ⟨gp,2,none⟩ v) ow' b {M with list:=some (id,fin,l)} L/\Fr wA ow (w8.setCell ⟨gp,2,none⟩ v) ow'/\ow' gp= .lst/\Blk (w8.setCell ⟨gp,2,none⟩ v) gp 195 #[.int .i64 (id:Nat),.bool fin,v]:=by
 obtain⟨ow',k,h6,h3,h4⟩:=h.apped hg hr (by decide);have hc:=h.blkK k (by decide);have hz:Oz w8 (λg=>ow' g= .blk) v l:=hO.owned h4;have hp:=k.at_ .lst (by decide) (by decide) gp h5 hb.lt;have h7:Blk w8 gp 195 #[.int .i64 (id:Nat),.bool fin,v0]:=hp.1.trans hb;have hsz:(w8.setCell ⟨gp,2,none⟩ v).heap.size=w8.heap.size:=by simp[World.setCell]
 have k2:Kp (λx=>x= .blk\/x= .lst) wA ow (w8.setCell ⟨gp,2,none⟩ v) ow':=⟨by have:=k.size;omega,λg hn ht h8=>by
  have h1:=k.keep g hn (λe=>ht (.inl e)) h8;exact⟨(Below.heap_setCell w8 _ _ g (λe=>ht (.inr (by rw[e];exact h5)))).trans h1.1,h1.2⟩⟩
 have h2:=h.blkK k2 (by decide);have h0:=h7.put 2 v;simp only[List.setIfInBounds_toArray,List.set_cons_zero,List.set_cons_succ]at h0;have h9:Oz (w8.setCell ⟨gp,2,none⟩ v) (λg=>ow' g= .blk) v l:=hz.grown (grown_setCell (World.grownBy.refl w8 (some gp)) 2 v) λg e he=>by
  injection e with e
  subst e;rw[hp.2]at he;cases he
 refine⟨ow',⟨h2.1,h2.2,⟨h.p.fedK k2 (by decide),h.p.outK k2 (by decide),h.p.evK k2 (by decide) (by decide),(h.p.inwK k2 (by decide)).1,(h.p.inwK k2 (by decide)).2,(h.p.outwK k2 (by decide)).1,(h.p.outwK k2 (by decide)).2,(h.p.mapK k2 (by decide)).1,(h.p.mapK k2 (by decide)).2,
  λs hs=>h.p.strK k2 s hs (by intro j;simp),⟨gp,v,hL,hp.2,h0,h9⟩,h.p.encK k2 (by decide),h.p.decK k2 (by decide)⟩,λg hd=>h3 g (by omega)⟩,h6.trans ?_,hp.2,h0⟩
 exact Fr.grown (grown_setCell (World.grownBy.refl w8 (some gp)) 2 _) λg e=>by injection e with e;subst e;rw[hp.2];decide
def offT (ow:Nat->Tg):Nat->Tg:=λj=>if ow j= .lst\/ow j= .blk then .no else ow j
theorem CN.unlists (h:CN w ow b M L):CN (w.setCell ⟨b,16,none⟩ (.pointer none)) (offT ow) b {M with list:=none} {L with list:=.pointer none}/\Fr w ow (w.setCell ⟨b,16,none⟩ (.pointer none)) (offT ow):=by
 have h0:∀j,ow j≠ .lst->ow j≠ .blk->offT ow j=ow j:=λj h1 h2=>by unfold offT;rw[if_neg];rintro(e|e);exact h1 e;exact h2 e
 have hsz:(w.setCell ⟨b,16,none⟩ (.pointer none)).heap.size=w.heap.size:=by simp[World.setCell]
 have k:Kp (λx=>x= .blk\/x= .lst) w ow w (offT ow):=⟨Nat.le_refl _,λg _ ht _=>⟨rfl,h0 g (λe=>ht (.inr e)) (λe=>ht (.inl e))⟩⟩;have h3:=h.blkK k (by decide);have h4:CP w (offT ow) M.fed M.out M.evs M.inw M.outw M.strs none M.hp {L with list:=.pointer none}:=
  ⟨h.p.fedK k (by decide),h.p.outK k (by decide),h.p.evK k (by decide) (by decide),(h.p.inwK k (by decide)).1,(h.p.inwK k (by decide)).2,(h.p.outwK k (by decide)).1,(h.p.outwK k (by decide)).2,(h.p.mapK k (by decide)).1,(h.p.mapK k (by decide)).2,
    λs hs=>h.p.strK k s hs (by intro j;simp),rfl,h.p.encK k (by decide),h.p.decK k (by decide)⟩
 refine⟨⟨h3.1.put 16 _,h3.2,h4.keep (by omega) λg _ hn _=>⟨Below.heap_setCell w _ _ g (λe=>hn (by rw[e];exact h3.2)),rfl⟩,λg h6=>?_⟩,⟨rfl,rfl,rfl,by omega,λg h5 ho=>Below.heap_setCell w _ _ g (λe=>by rw[e,h.tb]at ho;cases ho),λg h5 ho=>?_⟩⟩
 · rw[h0 g (by rw[h.new g (by omega)];decide) (by rw[h.new g (by omega)];decide)]
   exact h.new g (by omega)
 · rw[h0 g (by rw[ho];decide) (by rw[ho];decide)]
   exact ho
end
end Go.Proofs.YtkpppjhbmnfmkaaGreatDoor
end

section
set_option maxHeartbeats 1000000
set_option maxRecDepth 100000
namespace Go.Proofs.YtkpppjhbmnfmkaaGreatDoor
open Go.RowKit Go.Own Go.Own.Fr
theorem preface_any (w:World):Calls Tryz.prog 38 #[] w λe w'=>e= .returned (.slice (some ⟨w.heap.size,0,none⟩) 24 24)/\Rd w' (w.heap.size+1) (some ⟨w.heap.size,0,none⟩) 24 prefB/\Below w.heap.size w w':=by
 have h0:=λ(w:World) (C:Array Value) (n c:Nat)=>Lib.run_convert_bytes_const (P:=Tryz.prog) w 22 5 C n c Tryz.underlying22 Tryz.underlying5;go_enter Tryz.func38,Tryz.ntmps38;go_wp2;go_ret;exact⟨rfl,Rd.marks w _ prefB 5 _ rfl,(Below.refl _ _).alloc (Nat.le_refl _) _⟩
theorem prefaceR_any (w:World):Calls Tryz.prog 41 #[] w λe w'=>e= .returned (.slice (some ⟨w.heap.size,0,none⟩) 24 24)/\Rd w' (w.heap.size+1) (some ⟨w.heap.size,0,none⟩) 24 prefB/\Below w.heap.size w w':=by
 have h0:=λ(w:World) (C:Array Value) (n c:Nat)=>Lib.run_convert_bytes_const (P:=Tryz.prog) w 22 5 C n c Tryz.underlying22 Tryz.underlying5;go_enter Tryz.func41,Tryz.ntmps41;go_wp2;go_ret;exact⟨rfl,Rd.marks w _ prefB 5 _ rfl,(Below.refl _ _).alloc (Nat.le_refl _) _⟩
end Go.Proofs.YtkpppjhbmnfmkaaGreatDoor
end

section
namespace Go.Proofs.YtkpppjhbmnfmkaaGreatDoor
open Go.RowKit Go.Own
def ev (a:Addr):Value:=.iface 327 (.pointer (some a))
def ErrC (w:World) (g:Nat):Prop:=∃a,w.cell? ⟨g,0,none⟩=some (ev a)
structure HpE (w:World):Prop where
 room:20<=w.heap.size
 long:ErrC w 5
 end_:ErrC w 10
 idx:ErrC w 12
 tab:ErrC w 8
 list:ErrC w 6
 huff:ErrC w 16
 gone:ErrC w 3
 win:ErrC w 11
 max:∃m,w.cell? ⟨13,0,none⟩=some (.int .i64 m)
theorem HpE.keep {w w':World} (h:HpE w) (hs:w.heap.size<=w'.heap.size) (hk:∀g,g<20->w'.heap[g]?=w.heap[g]?):HpE w':=by
 have kc:∀g,g<20->w'.cell? ⟨g,0,none⟩=w.cell? ⟨g,0,none⟩:=λg hg=>World.cell?_of_block (a:=⟨g,0,none⟩) (hk g hg);have ke:∀g,g<20->ErrC w g->ErrC w' g:=λg hg ⟨a,ha⟩=>⟨a,(kc g hg).trans ha⟩;obtain⟨m,hm⟩:=h.max;exact⟨Nat.le_trans h.room hs,ke _ (by decide) h.long,ke _ (by decide) h.end_,ke _ (by decide) h.idx,ke _ (by decide) h.tab,ke _ (by decide) h.list,ke _ (by decide) h.huff,ke _ (by decide) h.gone,ke _ (by decide) h.win,⟨m,(kc _ (by decide)).trans hm⟩⟩
theorem HpE.below {w w':World} {B:Nat} (h:HpE w) (hb:Below B w w') (hB:20<=B):HpE w':=h.keep hb.size λg hg=>hb.block g (by omega)
end Go.Proofs.YtkpppjhbmnfmkaaGreatDoor
end

section
set_option maxHeartbeats 4000000
set_option maxRecDepth 100000
namespace Go.Proofs.YtkpppjhbmnfmkaaGreatDoor
open Lib (hid)
open Go.RowKit Go.Own Go.Own.Cx
def stat3:Nat->Option Hd.HdrV
 |3=>some ⟨⟨#[58,109,101,116,104,111,100]⟩,⟨#[80,79,83,84]⟩,false⟩
 |6=>some ⟨⟨#[58,115,99,104,101,109,101]⟩,⟨#[104,116,116,112]⟩,false⟩
 |4=>some ⟨⟨#[58,112,97,116,104]⟩,⟨#[47]⟩,false⟩
 |_=>none
theorem Blk3 {w:World} {g:Nat} {t:TypeId} {cs:Array Value} (h:Blk w g t cs) (hs:cs.size=3) (v0 v1 v2:Value):Blk (((w.setCell ⟨g,0,none⟩ v0).setCell ⟨g,1,none⟩ v1).setCell ⟨g,2,none⟩ v2) g t #[v0,v1,v2]:=by
 have e:(((cs.setIfInBounds 0 v0).setIfInBounds 1 v1).setIfInBounds 2 v2)= #[v0,v1,v2]:=by
  apply Array.ext
  · simp[hs]
  · intro i h1 h2
    simp at h2;have:i=0\/i=1\/i=2:=by omega
    rcases this with rfl|rfl|rfl<;>simp[Array.getElem_setIfInBounds,hs]
 exact e▸((h.put 0 v0).put 1 v1).put 2 v2
theorem below3 {B:Nat} {a w:World} {g:Nat} (h:Below B a w) (hg:B<=g) (v0 v1 v2:Value):Below B a (((w.setCell ⟨g,0,none⟩ v0).setCell ⟨g,1,none⟩ v1).setCell ⟨g,2,none⟩ v2):=
 ((h.setCell (p:=⟨g,0,none⟩) hg v0).setCell (p:=⟨g,1,none⟩) hg v1).setCell (p:=⟨g,2,none⟩) hg v2
theorem results_static (tmps:Array Value) (w:World) (g:Nat) (a b c v:Value) (ht:tmps[2]?=some (.pointer (some ⟨g,0,none⟩))) (h3:tmps[3]?=some v) (hb:Blk w g 63 #[a,b,c]):
 (results Tryz.f212 tmps).run Tryz.prog w= .ok (.tuple #[.agg #[a,b,c],v]) w:=by
 have c0:w.cell? ⟨g,0,none⟩=some a:=hb.cell 0;have c1:w.cell? ⟨g,1,none⟩=some b:=hb.cell 1;have c2:w.cell? ⟨g,2,none⟩=some c:=hb.cell 2;simp[results,Tryz.results212,go_sem,ht,h3,c0,c1,c2]
theorem results_tget (tmps:Array Value) (w:World) (g:Nat) (a b c v:Value) (ht:tmps[4]?=some (.pointer (some ⟨g,0,none⟩))) (h3:tmps[5]?=some v) (hb:Blk w g 63 #[a,b,c]):
 (results Tryz.f170 tmps).run Tryz.prog w= .ok (.tuple #[.agg #[a,b,c],v]) w:=by
 have c0:w.cell? ⟨g,0,none⟩=some a:=hb.cell 0;have c1:w.cell? ⟨g,1,none⟩=some b:=hb.cell 1;have c2:w.cell? ⟨g,2,none⟩=some c:=hb.cell 2;simp[results,Tryz.results170,go_sem,ht,h3,c0,c1,c2]
theorem stat3_at {i:Nat} {h:Hd.HdrV} (hi:stat3 i=some h):(i=3/\h=⟨⟨#[58,109,101,116,104,111,100]⟩,⟨#[80,79,83,84]⟩,false⟩)\/(i=6/\h=⟨⟨#[58,115,99,104,101,109,101]⟩,⟨#[104,116,116,112]⟩,false⟩)\/(i=4/\h=⟨⟨#[58,112,97,116,104]⟩,⟨#[47]⟩,false⟩):=by
 unfold stat3 at hi
 split at hi
 · exact .inl ⟨rfl,by simpa using hi.symm⟩
 · exact .inr (.inl ⟨rfl,by simpa using hi.symm⟩)
 · exact .inr (.inr ⟨rfl,by simpa using hi.symm⟩)
 · cases hi
def StatL (L:List ByteArray):Prop:=L.length=61/\L[2]?=some ⟨#[58,109,101,116,104,111,100,32,80,79,83,84]⟩/\L[5]?=some ⟨#[58,115,99,104,101,109,101,32,104,116,116,112]⟩/\L[3]?=some ⟨#[58,112,97,116,104,32,47]⟩
def lns:List UInt8->List (List UInt8)
 |[]=>[[]]
 |b::l=>if b=10 then[]::lns l else match lns l with
  |[]=>[[b]]
  |x::xs=>(b::x)::xs
theorem lns_ne:∀l,lns l≠[]
 |[]=>by simp[lns]
 |b::l=>by
  unfold lns
  split
  · simp
  · split<;>simp
theorem lns_none:∀{l:List UInt8},(10:UInt8)∉l->lns l=[l]
 |[],_=>rfl
 |b::l,h=>by
  rw[List.mem_cons,not_or]at h;rw[lns,if_neg (λe=>h.1 e.symm),lns_none h.2]
theorem lns_hit:∀{p:List UInt8} (r:List UInt8),(10:UInt8)∉p->lns (p++10::r)=p::lns r
 |[],r,_=>by simp[lns]
 |b::p,r,h=>by
  rw[List.mem_cons,not_or]at h;rw[List.cons_append,lns,if_neg (λe=>h.1 e.symm),lns_hit r h.2]
theorem idx_none:∀{l:List UInt8},(10:UInt8)∉l->Lib.index l [10]= -1
 |[],_=>rfl
 |b::l,h=>by
  rw[List.mem_cons,not_or]at h;simp[Lib.index,h.1,idx_none h.2]
theorem idx_hit:∀{p:List UInt8} (r:List UInt8),(10:UInt8)∉p->Lib.index (p++10::r) [10]=(p.length:Nat)
 |[],r,_=>by simp[Lib.index]
 |b::p,r,h=>by
  rw[List.mem_cons,not_or]at h;have hn:¬((p.length:Int)= -1):=by omega
  simp[Lib.index,h.1,idx_hit r h.2,hn]
theorem split_at:∀(l:List UInt8),(10:UInt8)∉l\/∃p r,l=p++10::r/\(10:UInt8)∉p
 |[]=>.inl (by simp)
 |b::l=>by
  by_cases h:b=10
  · exact .inr ⟨[],l,by rw[h];rfl,by simp⟩
  · have hb:¬(10:UInt8)=b:=λe=>h e.symm
    rcases split_at l with h1|⟨p,r,e,hp⟩
    · exact .inl (by simp[h1,hb])
    · exact .inr ⟨b::p,r,by rw[e];rfl,by simp[hp,hb]⟩
theorem lns_split:∀(n:Nat) (l:List UInt8),l.length<=n->Lib.splitK [10] 0 (Lib.count l [10]) l=lns l/\Lib.count l [10]+1=(lns l).length
 |n,l,hn=>by
  rcases split_at l with h|⟨p,r,rfl,h⟩
  · rw[Lib.count_miss (idx_none h),lns_none h]
    exact⟨rfl,rfl⟩
  · have hi:=idx_hit r h
    have hc:=Lib.count_hit (by simp) hi;have hd:(p++10::r).drop (p.length+[(10:UInt8)].length)=r:=by simp
    rw[hd]at hc
    match n,hn with
    |0,hn=>simp at hn
    |n+1,hn=>
     obtain⟨h1,h2⟩:=lns_split n r (by simp at hn;omega);have hne:¬((p.length:Int)== -1)=true:=by simp<;>omega
     rw[hc,lns_hit r h,Nat.add_comm 1,Lib.splitK,hi,if_neg hne];refine⟨?_,by simp;omega⟩;have e1:((p.length:Int)).toNat=p.length:=by simp
     rw[e1,hd,h1];simp
theorem at_of {L:List ByteArray} {l:List UInt8} {k:Nat} (h:(L.map (·.data.toList))[k]?=some l):L[k]?=some ⟨l.toArray⟩:=by
 rw[List.getElem?_map]at h;cases hk:L[k]? with
 |none=>rw[hk]at h;cases h
 |some x=>
  rw[hk]at h;simp only[Option.map_some,Option.some.injEq]at h;rw[<-h]
theorem statL_of {s:ByteArray} (h1:(lns s.data.toList).length=61) (h2:(lns s.data.toList)[2]?=some [58,109,101,116,104,111,100,32,80,79,83,84])
 (h3:(lns s.data.toList)[5]?=some [58,115,99,104,101,109,101,32,104,116,116,112]) (h4:(lns s.data.toList)[3]?=some [58,112,97,116,104,32,47]):StatL (Lib.splitB ⟨#[10]⟩ 0 (Lib.countB s ⟨#[10]⟩) s)/\Lib.countB s ⟨#[10]⟩+1=61:=by
 obtain⟨e1,e2⟩:=lns_split s.data.toList.length s.data.toList (Nat.le_refl _);have e3:(Lib.splitB ⟨#[10]⟩ 0 (Lib.countB s ⟨#[10]⟩) s).map (·.data.toList)=lns s.data.toList:=(Lib.splitB_data _ _ _ _).trans e1;refine⟨⟨?_,at_of (e3▸h2),at_of (e3▸h3),at_of (e3▸h4)⟩,e2.trans h1⟩;rw[<-h1,<-e3,List.length_map]
theorem stands_any (w:World) (m:Int) (hm:w.cell? ⟨13,0,none⟩=some (.int .i64 m)):
 Calls Tryz.prog 233 #[] w λe w'=>∃L,StatL L/\e= .returned (.slice (some ⟨w.heap.size,0,none⟩) 61 61)/\w'=w.alloc (.cells (L.map Value.string).toArray 9):=by
 have HS:=hid (λ(s:ByteArray) (hs:s.size<4294967281) (h1:(lns s.data.toList).length=61) (h2:(lns s.data.toList)[2]?=some [58,109,101,116,104,111,100,32,80,79,83,84]) (h3:(lns s.data.toList)[5]?=some [58,115,99,104,101,109,101,32,104,116,116,112]) (h4:(lns s.data.toList)[3]?=some [58,112,97,116,104,32,47])=>
  (show Calls Tryz.prog 255 #[.string s,.string ⟨#[10]⟩] w λe w'=>∃L,StatL L/\e= .returned (.slice (some ⟨w.heap.size,0,none⟩) 61 61)/\w'=w.alloc (.cells (L.map Value.string).toArray 9)from by
    obtain⟨k1,k2⟩:=statL_of h1 h2 h3 h4;refine(Tryz.strings_Split s ⟨#[10]⟩ m w hs hm (by decide)).mono ?_;intro e w' h;exact⟨_,k1,by rw[h.1,k2],h.2⟩))
 go_enter Tryz.func233,Tryz.ntmps233;go_wp2_with (first
  |(go_at_call 255
    refine Calls.mono (HS.out _ (of_decide_eq_true (by kernel_rfl)) (by kernel_rfl) (by kernel_rfl) (by kernel_rfl) (by kernel_rfl)) ?_;rintro e w1 ⟨L,hL,rfl,hw⟩;subst w1)
  |fail)
 go_ret;exact⟨L,hL,rfl,rfl⟩
theorem static_any (i:Nat) (h:Hd.HdrV) (hi:stat3 i=some h) (w:World) (m:Int) (hm:w.cell? ⟨13,0,none⟩=some (.int .i64 m)):
 Calls Tryz.prog 212 #[.int .i64 (i:Nat)] w λe w'=>e= .returned (.tuple #[.agg (hdrC h),.bool true])/\Below w.heap.size w w':=by
 have h1:=hid ((Below.refl w.heap.size w).alloc (Nat.le_refl _) (.cells #[.string ⟨#[]⟩,.string ⟨#[]⟩,.bool false] 63));have HX:=hid (Blk.new w 63 #[.string ⟨#[]⟩,.string ⟨#[]⟩,.bool false]);have hg:13<w.heap.size:=World.block_lt_of_cell? w _ hm;have HM:=hid (λ(W:World) (hb:Below w.heap.size w W)=>(show W.cell? ⟨13,0,none⟩=some (.int .i64 m)from(World.cell?_of_block (hb.block _ hg)).trans hm));clear hm hg;rcases stat3_at hi with⟨rfl,rfl⟩|⟨rfl,rfl⟩|⟨rfl,rfl⟩
 all_goals
  clear hi;go_enter Tryz.func212,Tryz.ntmps212;go_upto_region 3 with fail;generalize w.alloc (.cells #[.string ⟨#[]⟩,.string ⟨#[]⟩,.bool false] 63)=W0 at*
  have h3:=HM.out W0 h1.out;go_wp2_with (first
   |(go_at_call 233
     refine Calls.mono (stands_any W0 m h3) ?_;rintro e w1 ⟨L,hL,rfl,hw⟩;have h2:=hid (h1.out.alloc h1.out.size (.cells (L.map Value.string).toArray 9));have k2:w1.cell? ⟨W0.heap.size,2,none⟩=some (.string ⟨#[58,109,101,116,104,111,100,32,80,79,83,84]⟩):=by
      rw[hw];exact((Blk.new W0 9 (L.map Value.string).toArray).cell 2).trans (by simp[hL.2.1])
     have k5:w1.cell? ⟨W0.heap.size,5,none⟩=some (.string ⟨#[58,115,99,104,101,109,101,32,104,116,116,112]⟩):=by
      rw[hw];exact((Blk.new W0 9 (L.map Value.string).toArray).cell 5).trans (by simp[hL.2.2.1])
     have k3:w1.cell? ⟨W0.heap.size,3,none⟩=some (.string ⟨#[58,112,97,116,104,32,47]⟩):=by
      rw[hw];exact((Blk.new W0 9 (L.map Value.string).toArray).cell 3).trans (by simp[hL.2.2.2])
     rw[<-hw]at h2;have h0:Blk w1 w.heap.size 63 #[.string ⟨#[]⟩,.string ⟨#[]⟩,.bool false]:=hw▸HX.out.alloc _;have h4:=HM.out w1 h2.out;clear hL hw)
   |(go_at_call 232
     refine Calls.mono (Tryz.strings_Cut _ _ m _ (by decide) h4) ?_;rintro e w2 ⟨rfl,n,hw⟩;subst w2;have h5:=h0.drewN n;have x0:=h0.cell 0;have x1:=h0.cell 1;have x2:=h0.cell 2;have xf:=h0.frozen 0;have xf1:=h0.frozen 1;have xf2:=h0.frozen 2;simp only[List.getElem?_toArray,List.getElem?_cons_zero,List.getElem?_cons_succ]at x0 x1 x2)
   |fail)
  refine bodyPost_ret (results_static _ _ w.heap.size _ _ _ _ rfl rfl (Blk3 h5 rfl _ _ _)) rfl ⟨by kernel_rfl,below3 (bdN h2.out n) (Nat.le_refl _) _ _ _⟩
theorem tget_any (tv:Value) (i:Nat) (h:Hd.HdrV) (hi:stat3 i=some h) (w:World) (m:Int) (hm:w.cell? ⟨13,0,none⟩=some (.int .i64 m)):
 Calls Tryz.prog 170 #[tv,.int .i64 (i:Nat)] w λe w'=>e= .returned (.tuple #[.agg (hdrC h),.bool true])/\Below w.heap.size w w':=by
 have h1:=hid ((Below.refl w.heap.size w).alloc (Nat.le_refl _) (.cells #[.string ⟨#[]⟩,.string ⟨#[]⟩,.bool false] 63));have HX:=hid (Blk.new w 63 #[.string ⟨#[]⟩,.string ⟨#[]⟩,.bool false]);have hg:13<w.heap.size:=World.block_lt_of_cell? w _ hm;have h2:(w.alloc (.cells #[.string ⟨#[]⟩,.string ⟨#[]⟩,.bool false] 63)).cell? ⟨13,0,none⟩=some (.int .i64 m):=(World.cell?_of_block (h1.out.block _ hg)).trans hm;have h4:(i:Int)<=61:=by
  rcases stat3_at hi with⟨rfl,_⟩|⟨rfl,_⟩|⟨rfl,_⟩<;>decide
 have HS:=hid (static_any i h hi _ m h2);clear hm hg h2 hi;obtain⟨hn,hv,hne⟩:=h;simp only[hdrC]at HS ⊢;go_enter Tryz.func170,Tryz.ntmps170;go_upto_region 1 with fail;generalize w.alloc (.cells #[.string ⟨#[]⟩,.string ⟨#[]⟩,.bool false] 63)=W0 at*
 go_wp2_with fail;refine HS.out.mono ?_;rintro e w1 ⟨rfl,hb⟩;have h3:=hid (h1.out.trans (hb.mono h1.out.size));have h0:=hid (HX.out.below hb HX.out.lt);clear hb;have x0:=h0.out.cell 0;have x1:=h0.out.cell 1;have x2:=h0.out.cell 2;have xf:=h0.out.frozen 0;have xf1:=h0.out.frozen 1;have xf2:=h0.out.frozen 2;simp only[List.getElem?_toArray,List.getElem?_cons_zero,List.getElem?_cons_succ]at x0 x1 x2;go_wp2;refine bodyPost_ret (results_tget _ _ w.heap.size _ _ _ _ rfl rfl (Blk3 h0.out rfl _ _ _)) rfl ⟨rfl,below3 h3.out (Nat.le_refl _) _ _ _⟩
theorem hgive_nil (w:World):Calls Tryz.prog 242 #[.nilIface] w λe w'=>e= .returned (.tuple #[])/\w'=w:=by
 go_enter Tryz.func242,Tryz.ntmps242;go_wp2;go_end0;exact⟨rfl,rfl⟩
theorem int_small (A:Option Addr) (n c B:Nat) (x:UInt8) (l:List UInt8) (i:Nat) (w:World) (hr:Rd w B A n (x::l)) (hx:x.toNat=128+i) (hi:stat3 i≠none):
 Calls Tryz.prog 256 #[.slice A n c,.int .i64 7] w λe w'=>e= .returned (.tuple #[.int .i64 (i:Nat),.int .i64 1,.nilIface])/\w'=w:=by
 have hl:=hr.1;obtain⟨ad,rfl,hb,h0⟩:=hr.at_ (k:=0) (by rw[<-hl];simp);have h1:¬(n:Int)=0:=by rw[<-hl];simp;omega
 have h3:((n:Int)==0)=false:=by simpa using h1
 have h4:(0:Int)<(n:Int):=by omega
 have h0:w.cell? ad=some (.int .u8 (x.toNat:Int)):=h0;have h2:i=3\/i=6\/i=4:=by
  cases hs:stat3 i with
  |none=>exact absurd hs hi
  |some h=>rcases stat3_at hs with⟨e,_⟩|⟨e,_⟩|⟨e,_⟩<;>omega
 have b3:bits .and .i64 131 127=3:=by decide
 have b6:bits .and .i64 134 127=6:=by decide
 have b4:bits .and .i64 132 127=4:=by decide
 clear hr hi;rcases h2 with rfl|rfl|rfl
 all_goals
  rw[hx]at h0;simp only[Nat.reduceAdd,Int.cast_ofNat_Int]at h0;clear hx;go_enter Tryz.func256,Tryz.ntmps256;go_wp2;refine wp_scope_straight ?_;go_wp2;simp only[Exit.noGoto_ret];go_ret3;exact⟨rfl,rfl⟩
end Go.Proofs.YtkpppjhbmnfmkaaGreatDoor
end

section
set_option maxHeartbeats 4000000
set_option maxRecDepth 100000
namespace Go.Proofs.YtkpppjhbmnfmkaaGreatDoor
open Lib (hid)
open Go.RowKit Go.Own Go.Own.Cx
attribute [local go_sem] Oper.semAt_some
structure BK (w:World) (B g d:Nat) (A:Option Addr) (n c:Nat) (l:List UInt8) (ov:Value) (out:List Hd.HdrV):Prop where
 blk:Blk w g 255 #[.pointer (some ⟨d,0,none⟩),.slice A n c,ov,.int .i64 (hszs out:Nat)]
 hg:B<=g
 le:n<=c
 few:n<=1000000
 rd_:Rd w B A n l
 dec:∃tv lim gone,Blk w d 137 #[tv,lim,gone]/\d<B/\∃p,tv= .pointer (some p)
 out_:Cm.Ew hdrC 63 3 w B ov out
 ne:∀j,ov.ownBlock=some j->j≠g
 max:∃m,w.cell? ⟨13,0,none⟩=some (.int .i64 m)
 maxB:13<B
section
variable {w w':World} {B g d n c:Nat} {A:Option Addr} {l:List UInt8} {ov:Value} {out:List Hd.HdrV}
theorem BK.below (h:BK w B g d A n c l ov out) (hb:Below w.heap.size w w') (hB:B<=w.heap.size):BK w' B g d A n c l ov out:=by
 obtain⟨tv,lim,gone,hd,h0,hp⟩:=h.dec;obtain⟨m,hm⟩:=h.max;exact⟨h.blk.below hb h.blk.lt,h.hg,h.le,h.few,h.rd_.below (hb.mono hB),⟨tv,lim,gone,hd.below hb (by omega),h0,hp⟩,h.out_.below hb,h.ne,⟨m,(World.cell?_of_block (hb.block _ (Nat.lt_of_lt_of_le h.maxB hB))).trans hm⟩,h.maxB⟩
theorem BK.cut (h:BK w B g d A (n+1) c l ov out) {A':Option Addr} {l':List UInt8} (hr:Rd w B A' n l') (hB:B<=w.heap.size):
 BK (w.setCell ⟨g,1,none⟩ (.slice A' n (c-1))) B g d A' n (c-1) l' ov out/\Below B w (w.setCell ⟨g,1,none⟩ (.slice A' n (c-1))):=by
 obtain⟨tv,lim,gone,hd,h0,hp⟩:=h.dec;obtain⟨m,hm⟩:=h.max;have hg:=h.hg;have hb:Below B w (w.setCell ⟨g,1,none⟩ (.slice A' n (c-1))):=(Below.refl B w).setCell (p:=⟨g,1,none⟩) hg _;refine⟨⟨h.blk.put 1 _,hg,by have:=h.le;omega,by have:=h.few;omega,hr.below hb,⟨tv,lim,gone,hd.below hb h0,h0,hp⟩,h.out_.grown (grown_setCell (World.grownBy.refl w (some g)) 1 _) (.inr λe=>h.ne g e rfl),h.ne,⟨m,(World.cell?_of_block (hb.block _ h.maxB)).trans hm⟩,h.maxB⟩,hb⟩
end
theorem hnum_any (w:World) (B g d:Nat) (A:Option Addr) (n c:Nat) (x:UInt8) (l:List UInt8) (ov:Value) (out:List Hd.HdrV) (i:Nat) (h:BK w B g d A (n+1) c (x::l) ov out) (hB:B<=w.heap.size) (hx:x.toNat=128+i) (hi:stat3 i≠none):
 Calls Tryz.prog 238 #[.pointer (some ⟨g,0,none⟩),.int .i64 7] w λe w'=>e= .returned (.int .i64 (i:Nat))/\∃A',BK w' B g d A' n (c-1) l ov out/\Below B w w':=by
 have HI:=hid (int_small A (n+1) c B x l i w h.rd_ hx hi);obtain⟨A',h0,hcut⟩:=cut_from (P:=Tryz.prog) (t:=22) (k:=1) byteP h.rd_ 1 rfl (by omega) h.le;have HR:=hid (h.cut h0 hB);have c1:w.cell? ⟨g,1,none⟩=some (.slice A (n+1) c):=h.blk.cell 1;have f1:=h.blk.frozen 1;clear h h0 hx hi;simp only[Nat.add_sub_cancel]at hcut;go_enter Tryz.func238,Tryz.ntmps238;go_wp2_with (first
  |(go_at_call 256
    with_reducible refine Calls.mono HI.out ?_
    rintro e w1 ⟨rfl,hw⟩;subst w1)
  |(go_at_call 242
    with_reducible refine Calls.mono (hgive_nil _) ?_
    rintro e w1 ⟨rfl,hw⟩;subst w1)
  |fail)
 go_ret;exact⟨rfl,A',HR.out.1,HR.out.2⟩
theorem results_header (tmps:Array Value) (w:World) (g:Nat) (a b c:Value) (ht:tmps[4]?=some (.pointer (some ⟨g,0,none⟩))) (hb:Blk w g 63 #[a,b,c]):
 (results Tryz.f237 tmps).run Tryz.prog w= .ok (.agg #[a,b,c]) w:=by
 have c0:w.cell? ⟨g,0,none⟩=some a:=hb.cell 0;have c1:w.cell? ⟨g,1,none⟩=some b:=hb.cell 1;have c2:w.cell? ⟨g,2,none⟩=some c:=hb.cell 2;simp[results,Tryz.results237,go_sem,ht,c0,c1,c2]
theorem header_any (w:World) (B g d:Nat) (A:Option Addr) (n c:Nat) (l:List UInt8) (ov:Value) (out:List Hd.HdrV) (i:Nat) (hd:Hd.HdrV) (h:BK w B g d A n c l ov out) (hi:stat3 i=some hd) (hB:B<=w.heap.size):
 Calls Tryz.prog 237 #[.pointer (some ⟨g,0,none⟩),.int .i64 (i:Nat)] w λe w'=>e= .returned (.agg (hdrC hd))/\Below w.heap.size w w':=by
 have HX:=hid (Blk.new w 63 #[.string ⟨#[]⟩,.string ⟨#[]⟩,.bool false]);have h1:=hid ((Below.refl w.heap.size w).alloc (Nat.le_refl _) (.cells #[.string ⟨#[]⟩,.string ⟨#[]⟩,.bool false] 63));have hk:=h.below h1.out hB;obtain⟨tv,lim,gone,h2,_,p,rfl⟩:=hk.dec;obtain⟨m,hm⟩:=hk.max;have HG:=hid (tget_any (.pointer (some p)) i hd hi _ m hm);have c0:(w.alloc (.cells #[.string ⟨#[]⟩,.string ⟨#[]⟩,.bool false] 63)).cell? ⟨g,0,none⟩=some (.pointer (some ⟨d,0,none⟩)):=hk.blk.cell 0;have d0:(w.alloc (.cells #[.string ⟨#[]⟩,.string ⟨#[]⟩,.bool false] 63)).cell? ⟨d,0,none⟩=some (.pointer (some p)):=h2.cell 0;clear h hk h2 hm hi hB;obtain⟨hn,hv,hne⟩:=hd;simp only[hdrC]at HG ⊢;go_enter Tryz.func237,Tryz.ntmps237;go_upto_region 1 with fail;generalize w.alloc (.cells #[.string ⟨#[]⟩,.string ⟨#[]⟩,.bool false] 63)=W0 at*
 go_wp2_with (first
  |(go_at_call 170
    with_reducible refine Calls.mono HG.out ?_
    rintro e w1 ⟨rfl,hb⟩;have h3:=hid (h1.out.trans (hb.mono h1.out.size));have h0:=hid (HX.out.below hb HX.out.lt);have x0:=h0.out.cell 0;have x1:=h0.out.cell 1;have x2:=h0.out.cell 2;have xf:=h0.out.frozen 0;have xf1:=h0.out.frozen 1;have xf2:=h0.out.frozen 2;have xl:=h0.out.lt;have xne:¬w.heap.size=w1.heap.size:=by omega
    have xne':¬w1.heap.size=w.heap.size:=by omega
    simp only[List.getElem?_toArray,List.getElem?_cons_zero,List.getElem?_cons_succ]at x0 x1 x2;clear hb)
  |fail)
 refine bodyPost_ret (results_header _ _ w.heap.size _ _ _ rfl ((Blk3 h0.out rfl _ _ _).alloc _)) rfl ⟨rfl,(below3 h3.out (Nat.le_refl _) _ _ _).alloc (below3 h3.out (Nat.le_refl _) _ _ _).size _⟩
theorem elH:Cm.ElP Tryz.prog hdrC 41 63 3 40:=by
 refine⟨Tryz.underlying41,?_,λ_=>rfl,?_,by omega,by omega⟩
 · obtain⟨i,hi,hz,h1,h2⟩:=info_parts hdrInfo
   exact⟨i,_,hi,hz,h1,h2,rfl⟩
 · intro x u hu
   simp only[hdrC,List.mem_cons,List.not_mem_nil,or_false]at hu;rcases hu with rfl|rfl|rfl<;>rfl
theorem hsize_any (hn hv:ByteArray) (ne:Bool) (w:World) (h1:hn.size<=1000000) (h2:hv.size<=1000000):Calls Tryz.prog 135 #[.agg #[.string hn,.string hv,.bool ne]] w λe w'=>e= .returned (.int .i64 (hn.size+hv.size+32:Nat))/\w'=w.alloc (.cells #[.string hn,.string hv,.bool ne] 63):=by
 have e1:wrap64 ((hn.size:Int)+hv.size)=(hn.size:Int)+hv.size:=by unfold wrap64;omega
 have e3:hv.size<=1000000:=h2;have e2:wrap64 ((hn.size:Int)+hv.size+32)=(hn.size:Int)+hv.size+32:=by unfold wrap64;omega
 go_enter Tryz.func135,Tryz.ntmps135;go_wp2;go_ret;exact⟨by simp[e1,e2],rfl⟩
theorem BK.told {w W0 WA w8:World} {B g d n c:Nat} {A:Option Addr} {l:List UInt8} {ov v8:Value} {out:List Hd.HdrV} {hd:Hd.HdrV} (h:BK W0 B g d A n c l ov out) (h0:Below B w W0) (hB:B<=W0.heap.size) {s2:Nat} (hs2:hszs (out++[hd])=s2)
 (h2:Blk WA g 255 #[.pointer (some ⟨d,0,none⟩),.slice A n c,ov,.int .i64 (s2:Nat)]) (h4:Below B W0 WA) (hown:Cm.Ew hdrC 63 3 w8 B v8 (out++[hd])) (hg:WA.grownBy w8 ov.ownBlock) (hv:v8.ownBlock=ov.ownBlock\/v8.ownBlock=some WA.heap.size):
 BK (w8.setCell ⟨g,2,none⟩ v8) B g d A n c l v8 (out++[hd])/\Below B w (w8.setCell ⟨g,2,none⟩ v8):=by
 obtain⟨tv,lim,gone,h7,h5,hp⟩:=h.dec;obtain⟨m,hm⟩:=h.max;have h9:=h2.lt;have h8:Below B W0 w8:=h4.grown hg (Nat.le_trans hB h4.size) λk e=>(h.out_.lt k e).1;have h3:Below B W0 (w8.setCell ⟨g,2,none⟩ v8):=h8.setCell (p:=⟨g,2,none⟩) h.hg _;have hne:some g≠ov.ownBlock:=λe=>h.ne g e.symm rfl;have h6:∀j,v8.ownBlock=some j->j≠g:=λj e=>by
  rcases hv with hv|hv
  · exact h.ne j (hv▸e)
  · rw[hv]at e;injection e with e;omega
 refine⟨⟨?_,h.hg,h.le,h.few,h.rd_.below h3,⟨tv,lim,gone,h7.below h3 h5,h5,hp⟩,hown.grown (grown_setCell (World.grownBy.refl w8 (some g)) 2 _) (.inr λe=>h6 g e rfl),h6,⟨m,(World.cell?_of_block (h3.block _ h.maxB)).trans hm⟩,h.maxB⟩,h0.trans h3⟩;have h1:=(h2.grown hg hne).put 2 v8;simp only[List.setIfInBounds_toArray,List.set_cons_zero,List.set_cons_succ]at h1;rw[hs2];exact h1
theorem htell_any (w:World) (B g d:Nat) (A:Option Addr) (n c:Nat) (l:List UInt8) (ov:Value) (out:List Hd.HdrV) (hd:Hd.HdrV) (h:BK w B g d A n c l ov out) (hB:B<=w.heap.size) (h1:hd.name.size<=1000) (h2:hd.value.size<=1000) (h3:hszs out<=10000) (h4:out.length<=1000):
 Calls Tryz.prog 236 #[.pointer (some ⟨g,0,none⟩),.agg (hdrC hd)] w λe w'=>e= .returned (.tuple #[])/\∃ov',BK w' B g d A n c l ov' (out++[hd])/\Below B w w':=by
 have HX:=hid (Blk.new w 63 (hdrC hd));have h7:=hid ((Below.refl w.heap.size w).alloc (Nat.le_refl _) (.cells (hdrC hd) 63));have HK:=hid (h.below h7.out hB);obtain⟨A0,c0,h8,_,_⟩:=h.out_.form;have HZ:=hid (show(w.alloc (.cells (hdrC hd) 63)).heap.size=w.heap.size+1 by simp);have ho:=h.blk.lt;obtain⟨hn,hv,hne⟩:=hd;simp only at h1 h2;have HS:=hid (λW=>hsize_any hn hv hne W (by omega) (by omega));have hc:=hid (show hszs (out++[⟨hn,hv,hne⟩])=hszs out+(hn.size+hv.size+32)by simp[hszs,hsz]);clear h;simp only[hdrC]at HX h7 HK HZ ⊢;have hq:IntKind.i64.wrap ((hszs out:Int)+((hn.size+hv.size+32:Nat):Int))=((hszs out+(hn.size+hv.size+32):Nat):Int):=by rw[IntKind.wrap_i64];omega
 have ht:¬(16384:Int)<((hszs out+(hn.size+hv.size+32):Nat):Int):=by omega
 have g3:=HK.out.blk.cell 3;simp only[List.getElem?_toArray,List.getElem?_cons_zero,List.getElem?_cons_succ]at g3;have HG:=hid (HK.out.blk.put 3 (.int .i64 ((hszs out+(hn.size+hv.size+32):Nat):Int)));simp only[List.setIfInBounds_toArray,List.set_cons_zero,List.set_cons_succ]at HG;generalize hszs out=so at*
 generalize hn.size+hv.size+32=sh at*
 generalize hu:so+sh=s2 at*
 go_enter Tryz.func236,Tryz.ntmps236;go_upto_region 1 with fail;generalize w.alloc (.cells #[.string hn,.string hv,.bool hne] 63)=W0 at*
 have gf:=HK.out.blk.frozen 3;have x0:=HX.out.cell 0;have x1:=HX.out.cell 1;have x2:=HX.out.cell 2;simp only[List.getElem?_toArray,List.getElem?_cons_zero,List.getElem?_cons_succ]at x0 x1 x2;have xl:=HX.out.lt;have gl:=HK.out.blk.lt;have h0:=hid (show Blk ((W0.setCell ⟨g,3,none⟩ (.int .i64 (s2:Nat))).alloc (.cells #[.string hn,.string hv,.bool hne] 63)).drew g 255 #[.pointer (some ⟨d,0,none⟩),.slice A n c,ov,.int .i64 (s2:Nat)]/\
  Below B W0 ((W0.setCell ⟨g,3,none⟩ (.int .i64 (s2:Nat))).alloc (.cells #[.string hn,.string hv,.bool hne] 63)).drew/\
  Cm.Ew hdrC 63 3 ((W0.setCell ⟨g,3,none⟩ (.int .i64 (s2:Nat))).alloc (.cells #[.string hn,.string hv,.bool hne] 63)).drew B ov out/\
  Blk ((W0.setCell ⟨g,3,none⟩ (.int .i64 (s2:Nat))).alloc (.cells #[.string hn,.string hv,.bool hne] 63)).drew w.heap.size 63 #[.string hn,.string hv,.bool hne]from
  ⟨HG.out.alloc _,bdN (((Below.refl B W0).setCell (p:=⟨g,3,none⟩) HK.out.hg _).alloc (by simp[World.setCell];omega) _) 1,
    (HK.out.out_.grown (grown_setCell (World.grownBy.refl W0 (some g)) 3 _) (.inr λe=>HK.out.ne g e rfl)).grown (grown_drewN (World.grownBy_alloc _ _ none) 1) (Cm.own_or _),(HX.out.far (p:=⟨g,3,none⟩) (by simp;omega) _).alloc _⟩)
 go_region_with (first
  |(go_at_call 135
    with_reducible refine Calls.mono (HS.out _) ?_
    rintro e w1 ⟨rfl,hw⟩;subst w1)
  |fail)
 all_goals
  generalize ((W0.setCell ⟨g,3,none⟩ (.int .i64 (s2:Nat))).alloc (.cells #[.string hn,.string hv,.bool hne] 63)).drew=W2 at*
  have c3:W2.cell? ⟨g,3,none⟩=some (.int .i64 (s2:Nat)):=h0.out.1.cell 3;have c2:W2.cell? ⟨g,2,none⟩=some ov:=h0.out.1.cell 2;rw[h8]at c2;have z0:=h0.out.2.2.2.cell 0;have z1:=h0.out.2.2.2.cell 1;have z2:=h0.out.2.2.2.cell 2;simp only[List.getElem?_toArray,List.getElem?_cons_zero,List.getElem?_cons_succ]at z0 z1 z2;have zl:=h0.out.2.2.2.lt;have hA:=h0.out.1.lt;clear g3 gf x0 x1 x2 xl gl;have he:=hid (show Cm.Ew hdrC 63 3 (W2.drew.alloc (.cells #[.string hn,.string hv,.bool hne] 63)) B (.slice A0 out.length c0) out from h8▸h0.out.2.2.1.grown (show W2.grownBy _ none from⟨rfl,rfl,rfl,by simp,λk hk _=>Below.heap_alloc W2.drew _ k hk⟩) (Cm.own_or _));have hf:Hid (Cm.RS hdrC 3 (W2.drew.alloc (.cells #[.string hn,.string hv,.bool hne] 63)) (W2.drew.alloc (.cells #[.string hn,.string hv,.bool hne] 63)).heap.size (some ⟨W2.heap.size,0,none⟩) 1 [⟨hn,hv,hne⟩]):=hid (by
   have h:=(Cm.Ew.lit (k:=3) hdrC 63 (λ_=>rfl) W2.drew [⟨hn,hv,hne⟩] (by simp)).rs (λ_=>rfl) (by omega);have e1:(Cm.flat hdrC [⟨hn,hv,hne⟩]).toArray= #[.string hn,.string hv,.bool hne]:=by simp[Cm.flat,hdrC]
   rw[e1]at h;exact h)
  have hh:=hid (show out.length+1<=1000000 by omega);have hi:=hid (show B<=(W2.drew.alloc (.cells #[.string hn,.string hv,.bool hne] 63)).heap.size by have:=h0.out.2.1.size;simp;omega);go_wp2_with fail;go_region_law
   ((refine Cm.step_app_e elH _ (by rfl) (.tmp 24) (.tmp 26) (by rfl) B (.slice A0 out.length c0) out (by rfl) he.out _ (some ⟨W2.heap.size,0,none⟩) 1 1 [⟨hn,hv,hne⟩] (by rfl) hf.out hh.out hi.out ?_
     intro A8 c8 w8 h5 h6 h9;have hj:=hid h6;have hl:=hid h5;have hm:=hid h9;have hb:=((show Blk W2.drew g 255 #[.pointer (some ⟨d,0,none⟩),.slice A n c,ov,.int .i64 (s2:Nat)]from h0.out.1).alloc (.cells #[.string hn,.string hv,.bool hne] 63)).grown h6 (λe=>HK.out.ne g (h8▸e.symm) rfl);have hC:w8.frozen? ⟨g,2,none⟩=false:=hb.frozen 2;have hD:w8.cell? ⟨g,2,none⟩=some ov:=hb.cell 2;clear hb h5 h6 h9))
 all_goals
  go_wp2;go_end0;have hT:=HK.out.told (h7.out.mono hB) (by have:=h7.out.size;omega) hc.out (WA:=W2.drew.alloc (.cells #[.string hn,.string hv,.bool hne] 63)) ((show Blk W2.drew g 255 #[.pointer (some ⟨d,0,none⟩),.slice A n c,ov,.int .i64 (s2:Nat)]from h0.out.1).alloc _) ((bdN h0.out.2.1 1).alloc (by have:=h0.out.2.1.size;have:=h7.out.size;show B<=W2.heap.size;omega) _) hl.out (h8▸hj.out) (h8▸hm.out);exact⟨rfl,_,hT.1,hT.2⟩
end Go.Proofs.YtkpppjhbmnfmkaaGreatDoor
end

section
set_option maxHeartbeats 1000000
namespace Go.Proofs.YtkpppjhbmnfmkaaGreatDoor
open Lib (hid)
open Go.RowKit Go.Own Go.Own.Cx
theorem stat3_small {i:Nat} {h:Hd.HdrV} (hi:stat3 i=some h):h.name.size<=20/\h.value.size<=20/\hsz h<=100/\128+i<256/\bits .and .u8 ((128+i:Nat):Int) 128=128:=by
 rcases stat3_at hi with⟨rfl,rfl⟩|⟨rfl,rfl⟩|⟨rfl,rfl⟩<;>refine⟨by decide,by decide,by decide,by decide,by decide⟩
theorem kind1_any (w:World) (B g d:Nat) (A:Option Addr) (n c:Nat) (x:UInt8) (l:List UInt8) (ov:Value) (out:List Hd.HdrV) (i:Nat) (hd:Hd.HdrV) (h:BK w B g d A (n+1) c (x::l) ov out) (hB:B<=w.heap.size) (hx:x.toNat=128+i) (hi:stat3 i=some hd) (h3:hszs out<=10000) (h4:out.length<=100):
 Calls Tryz.prog 235 #[.pointer (some ⟨g,0,none⟩)] w λe w'=>e= .returned (.tuple #[])/\∃A' ov',BK w' B g d A' n (c-1) l ov' (out++[hd])/\Below B w w':=by
 have HN:=hid (hnum_any w B g d A n c x l ov out i h hB hx (by rw[hi];simp));have HH:=hid (λW A c (h:BK W B g d A n c l ov out) (hB:B<=W.heap.size)=>header_any W B g d A n c l ov out i hd h hi hB);have hs:=stat3_small hi;have HT:=hid (λW A c (h:BK W B g d A n c l ov out) (hB:B<=W.heap.size)=>htell_any W B g d A n c l ov out hd h hB (by omega) (by omega) h3 (by omega));have HB:=hid hB;clear h hx hi h3 h4 hs hB;obtain⟨hn,hv,hne⟩:=hd;simp only[hdrC]at HH HT;go_enter Tryz.func235,Tryz.ntmps235;go_wp2_with (first
  |(go_at_call 238
    with_reducible refine Calls.mono HN.out ?_
    rintro e w1 ⟨rfl,A1,h5,h0⟩;have h6:=hid h5;have hb:=hid h0;have h1:=hid (Nat.le_trans HB.out h0.size);clear h5 h0)
  |(go_at_call 237
    with_reducible refine Calls.mono (HH.out _ _ _ h6.out h1.out) ?_
    rintro e w2 ⟨rfl,h2⟩;have hc:=hid (h6.out.below h2 h1.out);have h7:=hid (hb.out.trans (h2.mono h1.out));have he:=hid (Nat.le_trans HB.out h7.out.size);clear h2)
  |(go_at_call 236
    with_reducible refine Calls.mono (HT.out _ _ _ hc.out he.out) ?_
    rintro e w3 ⟨rfl,ov3,h8,h9⟩;have hf:=hid h8;have hh:=hid (h7.out.trans h9);clear h8 h9)
  |fail)
 go_end0;exact⟨rfl,A1,ov3,hf.out,hh.out⟩
def kindC:Array Value:=#[.int .u8 128,.int .u8 128,.func (.func 235) #[] #[],.int .u8 192,.int .u8 64,.func (.func 239) #[] #[],.int .u8 224,.int .u8 32,.func (.func 241) #[] #[],.int .u8 240,.int .u8 16,.func (.func 243) #[] #[],.int .u8 240,.int .u8 0,.func (.func 244) #[] #[]]
theorem kinds_any (w:World):Calls Tryz.prog 218 #[] w λe w'=>e= .returned (.slice (some ⟨w.heap.size,0,none⟩) 5 5)/\w'=w.alloc (.cells kindC 260):=by
 go_enter Tryz.func218,Tryz.ntmps218;go_wp2;go_ret;exact⟨rfl,rfl⟩
theorem decode1_idle (a b c:Addr) (w:World):
 CallsD Tryz.prog 216 #[.pointer (some a),.pointer (some b),.pointer (some c)] .returning w λe u' w'=>e= .returned (.tuple #[])/\u'= .returning/\w'=w:=by
 refine callsD_of_wpS Tryz.func216 rfl λc₀ cs hu=>?_;apply wpS_seq;apply wpS_region;simp[wpOpsS,go_sem,recoverD,hu,Tryz.ntmps216,Exit.thenS];apply wpS_seq;apply wpS_region;simp[wpOpsS,go_sem,Exit.thenS];refine wpS_cond (t:=false) (by simp[Act.eval,Array.replicate]) ?_;simp only[Bool.false_eq_true,if_false];refine wpS_of_wp (wp_skip ?_);cases c₀;simp_all[bodyPostS,results,Tryz.results216]
end Go.Proofs.YtkpppjhbmnfmkaaGreatDoor
end

section
set_option maxHeartbeats 8000000
set_option maxRecDepth 100000
namespace Go.Proofs.YtkpppjhbmnfmkaaGreatDoor
open Lib (hid)
open Go.RowKit Go.Own Go.Own.Cx
def Ix:List UInt8->List Hd.HdrV->Prop
 |[],[]=>True
 |x::l,h::hs=>(∃i,x.toNat=128+i/\stat3 i=some h)/\Ix l hs
 |_,_=>False
theorem Ix.len:∀{l:List UInt8} {hs:List Hd.HdrV},Ix l hs->l.length=hs.length
 |[],[],_=>rfl
 |_::l,_::hs,h=>by simp[Ix.len (l:=l) (hs:=hs) h.2]
 |[],_::_,h=>h.elim
 |_::_,[],h=>h.elim
theorem Ix.at_ {l:List UInt8} {hs:List Hd.HdrV} {n:Nat} (h:Ix l hs) (hn:l.length=n+1):∃x l' hd hs' i,l=x::l'/\hs=hd::hs'/\x.toNat=128+i/\stat3 i=some hd/\Ix l' hs'/\l'.length=n:=by
 match l,hs,h with
 |[],_,_=>simp at hn
 |x::l',hd::hs',⟨⟨i,h1,h2⟩,h3⟩=>exact⟨x,l',hd,hs',i,rfl,rfl,h1,h2,h3,by simpa using hn⟩
 |_::_,[],h=>exact h.elim
structure DJ (W wr:World) (B g d:Nat) (hs:List Hd.HdrV) (A:Option Addr) (n c:Nat) (l:List UInt8) (ov:Value) (done rest:List Hd.HdrV):Prop where
 bk:BK wr B g d A n c l ov done
 ix:Ix l rest
 all_:done++rest=hs
 sz:hszs done<=100*done.length
 ln:done.length+n<=100
 low:Below B W wr
 hB:B<=wr.heap.size
def DI (W:World) (B g d:Nat) (hs:List Hd.HdrV) (wr:World):Prop:=∃A n c l ov done rest,DJ W wr B g d hs A n c l ov done rest
def lenK (w:World) (g:Nat):Nat:=match w.cell? ⟨g,1,none⟩with|some (.slice _ n _)=>n|_=>0
theorem lenK_of {w:World} {g n c:Nat} {A:Option Addr} (h:w.cell? ⟨g,1,none⟩=some (.slice A n c)):lenK w g=n:=by rw[lenK,h]
theorem results_decode (tmps:Array Value) (w:World) (g1 g2:Nat) (a b:Value) (h4:tmps[4]?=some (.pointer (some ⟨g1,0,none⟩))) (h5:tmps[5]?=some (.pointer (some ⟨g2,0,none⟩))) (c1:w.cell? ⟨g1,0,none⟩=some a) (c2:w.cell? ⟨g2,0,none⟩=some b):
 (results Tryz.f194 tmps).run Tryz.prog w= .ok (.tuple #[a,b]) w:=by
 simp[results,Tryz.results194,go_sem,h4,h5,c1,c2]
theorem decode_any (w:World) (d p:Nat) (lim:Value) (A:Option Addr) (n c B0:Nat) (l:List UInt8) (hs:List Hd.HdrV) (m:Int) (hd:Blk w d 137 #[.pointer (some ⟨p,0,none⟩),lim,.bool false]) (hr:Rd w B0 A n l) (hB:B0<=w.heap.size) (hc:n<=c) (hn:n<=100) (hk:Ix l hs)
 (hm:w.cell? ⟨13,0,none⟩=some (.int .i64 m)):
 Calls Tryz.prog 194 #[.pointer (some ⟨d,0,none⟩),.slice A n c] w λe w'=>∃A' c',e= .returned (.tuple #[.slice A' hs.length c',.nilIface])/\hs.length<=c'/\Cm.RS hdrC 3 w' w'.heap.size A' hs.length hs/\(0<hs.length->∀ad,A'=some ad->w.heap.size<=ad.block)/\Below w.heap.size w w':=by
 have hU:∀(fn:Fn) (first cap:Array Value) (w:World),(Instr.makeFunc fn first cap).run Tryz.prog w= .ok (.func fn first cap) w:=λ_ _ _ _=>rfl;have hg:=World.block_lt_of_cell? w _ hm;have h5:=hid (((((Below.refl w.heap.size w).alloc (Nat.le_refl _) (.cells #[.pointer (some ⟨d,0,none⟩)] 78)).alloc (by simp) (.cells #[.slice none 0 0] 41))).alloc (by simp;omega) (.cells #[.nilIface] 28));have X0:=hid (((Blk.new w 78 #[.pointer (some ⟨d,0,none⟩)]).alloc (.cells #[.slice none 0 0] 41)).alloc (.cells #[.nilIface] 28));have X1:=hid ((Blk.new (w.alloc (.cells #[.pointer (some ⟨d,0,none⟩)] 78)) 41 #[.slice none 0 0]).alloc (.cells #[.nilIface] 28));have X2:=hid (Blk.new ((w.alloc (.cells #[.pointer (some ⟨d,0,none⟩)] 78)).alloc (.cells #[.slice none 0 0] 41)) 28 #[.nilIface]);have HZ:=hid (show(((w.alloc (.cells #[.pointer (some ⟨d,0,none⟩)] 78)).alloc (.cells #[.slice none 0 0] 41)).alloc (.cells #[.nilIface] 28)).heap.size=w.heap.size+1+1+1 by simp);have HD:=hid (hd.below h5.out hd.lt);have HR:=hid ((hr.more hB).below h5.out);have HM:=hid (show _=some (.int .i64 m)from(World.cell?_of_block (a:=⟨13,0,none⟩) (h5.out.block _ hg)).trans hm);have HI:=hid hk;have hS:=hr.1;have hV:=hd.lt;clear hd hr hm hk;simp only[World.size_alloc]at X1 X2;go_enter_defers Tryz.func194,Tryz.ntmps194;go_upto_region 1 with fail;generalize ((w.alloc (.cells #[.pointer (some ⟨d,0,none⟩)] 78)).alloc (.cells #[.slice none 0 0] 41)).alloc (.cells #[.nilIface] 28)=W0 at*
 have d2:W0.cell? ⟨d,2,none⟩=some (.bool false):=HD.out.cell 2;have x0:=X0.out.cell 0;simp only[List.getElem?_toArray,List.getElem?_cons_zero,List.getElem?_cons_succ]at x0;go_wp2_with fail;have hz:=HZ.out;have hC:=hid (show DI (W0.alloc (.cells #[.pointer (some ⟨d,0,none⟩),.slice A n c,.slice none 0 0,.int .i64 0] 255)) W0.heap.size W0.heap.size d hs (W0.alloc (.cells #[.pointer (some ⟨d,0,none⟩),.slice A n c,.slice none 0 0,.int .i64 0] 255))from
  ⟨A,n,c,l,.slice none 0 0,[],hs,⟨⟨Blk.new W0 _ _,Nat.le_refl _,hc,by omega,(HR.out.more (by omega)).alloc (Nat.le_refl _) _,⟨_,_,_,HD.out.alloc _,by omega,⟨p,0,none⟩,rfl⟩,Cm.Ew.nil _ _ _ _ _,(λj e=>by cases e),⟨m,(World.cell?_of_block (((Below.refl W0.heap.size W0).alloc (Nat.le_refl _) _).block _ (by show 13<_;omega))).trans HM.out⟩,by omega⟩,
    HI.out,rfl,Nat.le_refl _,by simp;omega,Below.refl _ _,by simp⟩⟩)
 have Y1:=hid (X1.out.alloc (.cells #[.pointer (some ⟨d,0,none⟩),.slice A n c,.slice none 0 0,.int .i64 0] 255));have Y2:=hid (X2.out.alloc (.cells #[.pointer (some ⟨d,0,none⟩),.slice A n c,.slice none 0 0,.int .i64 0] 255));have hD:=hid (h5.out.alloc h5.out.size (.cells #[.pointer (some ⟨d,0,none⟩),.slice A n c,.slice none 0 0,.int .i64 0] 255));generalize W0.alloc (.cells #[.pointer (some ⟨d,0,none⟩),.slice A n c,.slice none 0 0,.int .i64 0] 255)=W1 at*
 have hW:w.heap.size+1+1<W0.heap.size:=by omega
 clear d2 x0 hz HZ;generalize W0.heap.size=G at*
 go_loopw [24] (λ_ wr=>DI W1 G G d hs wr) (λ_ wr=>lenK wr G)
 case atStart=>exact hC.out
 case round=>
  obtain⟨A1,n1,c1,l1,ov1,done,rest,hj⟩:=hrel;have HJ:=hid hj;have k1:wr.cell? ⟨G,1,none⟩=some (.slice A1 n1 c1):=hj.bk.blk.cell 1;have hE:lenK wr G=n1:=lenK_of k1;obtain⟨Ao,co,hb,hF,_⟩:=hj.bk.out_.form;have k2:wr.cell? ⟨G,2,none⟩=some ov1:=hj.bk.blk.cell 2;rw[hb]at k2;have z1:Blk wr (w.heap.size+1) 41 #[.slice none 0 0]:=Y1.out.below hj.low (by omega);have z2:Blk wr (w.heap.size+1+1) 28 #[.nilIface]:=Y2.out.below hj.low (by omega);have hG:=hid z1;have hH:=hid z2;clear hj;cases n1 with
  |zero=>
   have y1:=z1.cell 0;have y2:=z2.cell 0;have f1:=z1.frozen 0;have f2:=z2.frozen 0;simp only[List.getElem?_toArray,List.getElem?_cons_zero]at y1 y2;go_wp2;refine leaves_cons (f:=216) (args:=#[.pointer (some ⟨w.heap.size,0,none⟩),.pointer (some ⟨w.heap.size+1,0,none⟩),.pointer (some ⟨w.heap.size+1+1,0,none⟩)]) (by simp) (by simp[go_sem]) ?_;refine(decode1_idle _ _ _ _).mono ?_;rintro e u' w'' ⟨rfl,rfl,rfl⟩;have hI:rest=[]:=by
    have h1:=HJ.out.ix.len;have h2:=HJ.out.bk.rd_.1;exact List.eq_nil_of_length_eq_zero (by omega)
   have h7:done=hs:=by
    have h1:=HJ.out.all_;rw[hI,List.append_nil]at h1;exact h1
   subst h7;have hJ:wr.heap.size=((wr.setCell ⟨w.heap.size+1,0,none⟩ (.slice Ao done.length co)).setCell ⟨w.heap.size+1+1,0,none⟩ .nilIface).heap.size:=by simp[World.setCell]
   have he:=HJ.out.bk.out_;rw[hb]at he;have hK:=he.rs (λ_=>rfl) (by omega);have h3:=he.from;refine⟨_,results_decode _ _ (w.heap.size+1) (w.heap.size+1+1) _ _ rfl rfl (((hG.out.put 0 _).far (p:=⟨w.heap.size+1+1,0,none⟩) (by simp) _).cell 0) (((hH.out.far (p:=⟨w.heap.size+1,0,none⟩) (by simp) _).put 0 _).cell 0),Ao,co,rfl,hF,?_,λ_ ad e=>by have:=h3 ad e;omega,?_⟩
   · rw[<-hJ]
     exact(hK.setCell (λad e=>by have:=h3 ad e;simp;omega) _).setCell (λad e=>by have:=h3 ad e;simp;omega) _
   · exact((hD.out.trans (HJ.out.low.mono (by omega))).setCell (p:=⟨w.heap.size+1,0,none⟩) (by simp) _).setCell (p:=⟨w.heap.size+1+1,0,none⟩) (by simp;omega) _
  |succ k=>
   obtain⟨x,l',h8,hL,i,rfl,rfl,hx,hi,h6,hX⟩:=HJ.out.ix.at_ HJ.out.bk.rd_.1;obtain⟨ad,hA,hY,hcell⟩:=HJ.out.bk.rd_.at_ (k:=0) (by omega);subst hA;have hcell:wr.cell? ad=some (.int .u8 (x.toNat:Int)):=hcell;rw[hx]at hcell;have hM:=hid (stat3_small hi);have HX:=hid hx;have hN:=hid hi;have hO:=hid h6;have hT:bits .and .u8 ((128+i:Nat):Int) 128=128:=(stat3_small hi).2.2.2.2;have hf:=HJ.out.hB;have h4:=hid ((Below.refl wr.heap.size wr).alloc (Nat.le_refl _) (.cells kindC 260));have HQ:=hid (Blk.new wr 260 kindC);clear hx hi h6 hb;generalize hZ:((128+i:Nat):Int)=xi at*
   go_wp2_with (first
    |(go_at_call 218
      refine Calls.mono (kinds_any _) ?_;rintro e w1 ⟨rfl,hw⟩;rw[<-hw]at h4 HQ;clear hw)
    |fail)
   have hP:=hid (HJ.out.bk.below h4.out hf);have q0:w1.cell? ⟨wr.heap.size,0,none⟩=some (.int .u8 128):=HQ.out.cell 0;have q1:w1.cell? ⟨wr.heap.size,1,none⟩=some (.int .u8 128):=HQ.out.cell 1;have q2:w1.cell? ⟨wr.heap.size,2,none⟩=some (.func (.func 235) #[] #[]):=HQ.out.cell 2;have hh:=hid (Blk.new w1 260 #[.int .u8 128,.int .u8 128,.func (.func 235) #[] #[]]);have h9:=hid ((Below.refl w1.heap.size w1).alloc (Nat.le_refl _) (.cells #[.int .u8 128,.int .u8 128,.func (.func 235) #[] #[]] 260));have h0:=hid (Nat.le_trans hf h4.out.size);have hQ:=hid (show w1.cell? ad=_ from(World.cell?_of_block (h4.out.block _ (by omega))).trans hcell);have ql:=HQ.out.lt;clear hcell k1 k2;go_loop [27] (λt=>t= .int .i64 0) (λ_=>0)
   case atStart=>rfl
   case round=>
    obtain rfl:=hrel;go_upto_region 9 with fail;have hl:=hid (λj=>hP.out.below (bdN h9.out j) h0.out);have kc:(w1.alloc (.cells #[.int .u8 128,.int .u8 128,.func (.func 235) #[] #[]] 260)).cell? ad=some (.int .u8 xi):=(World.cell?_of_block (h9.out.block _ (by have:=h0.out;omega))).trans hQ.out;generalize w1.alloc (.cells #[.int .u8 128,.int .u8 128,.func (.func 235) #[] #[]] 260)=W2 at*
    have v0:W2.cell? ⟨w1.heap.size,0,none⟩=some (.int .u8 128):=hh.out.cell 0;have v1:W2.cell? ⟨w1.heap.size,1,none⟩=some (.int .u8 128):=hh.out.cell 1;have v2:W2.cell? ⟨w1.heap.size,2,none⟩=some (.func (.func 235) #[] #[]):=hh.out.cell 2;have k1:W2.cell? ⟨G,1,none⟩=some (.slice (some ad) (k+1) c1):=(hl.out 0).blk.cell 1;clear q0 q1 q2 ql;go_quiet (fail);go_wp2_with (first
     |(go_at_call 235
       refine Calls.mono (kind1_any _ G G d (some ad) k c1 x l' ov1 done i h8 (hl.out _) ?_ HX.out hN.out ?_ ?_) ?_
       · have:=h0.out;have:=h9.out.size;show G<=W2.heap.size;omega
       · have:=HJ.out.sz;have:=HJ.out.ln;omega
       · have:=HJ.out.ln;omega
       rintro e w3 ⟨rfl,A3,ov3,ho,hq⟩;have ht:=hid ho;have hu:=hid (show Below G w1 w3 from(bdN (h9.out.mono h0.out) _).trans hq);clear ho hq)
     |fail)
    have hsz:=hM.out.2.2.1;have hR:hszs (done++[h8])=hszs done+Go.Own.Cx.hsz h8:=by simp[hszs]
    have h1:=HJ.out.sz;have h2:=HJ.out.ln;have H0:=h4.out.size;refine⟨⟨A3,k,c1-1,l',ov3,done++[h8],hL,ht.out,hO.out,?_,?_,?_,(HJ.out.low.trans (h4.out.mono hf)).trans hu.out,?_⟩,?_⟩
    · rw[List.append_assoc];exact HJ.out.all_
    · rw[hR,List.length_append,List.length_singleton];omega
    · rw[List.length_append,List.length_singleton];omega
    · have:=hu.out.size;have:=h0.out;omega
    · rw[lenK_of (ht.out.blk.cell 1),hE];omega
end Go.Proofs.YtkpppjhbmnfmkaaGreatDoor
end

section
set_option maxHeartbeats 2000000
set_option maxRecDepth 100000
namespace Go.Own
open Lib (hid)
open Go.RowKit
theorem Ow.lit (w:World) (e:TypeId) (l:List UInt8) (hl:l.length<=1000):Ow (w.alloc (.cells (l.map bv).toArray e)) w.heap.size e (.slice (some ⟨w.heap.size,0,none⟩) l.length l.length) l.length l:=by
 have h:=Cm.Ew.lit (λb:UInt8=>#[bv b]) e (k:=1) (λ_=>rfl) w l hl;have e2:∀l:List UInt8,Cm.flat (λb:UInt8=>#[bv b]) l=l.map bv:=by
  intro l
  induction l with
  |nil=>rfl
  |cons x l ih=>rw[show Cm.flat (λb:UInt8=>#[bv b]) (x::l)=bv x::Cm.flat (λb:UInt8=>#[bv b]) l from rfl,ih];rfl
 unfold Cm.Ew at h;rw[e2]at h;exact h
end Go.Own
namespace Go.Proofs.YtkpppjhbmnfmkaaGreatDoor
open Lib (hid)
open Go.RowKit Go.Own Go.Own.Fr
theorem lawNumber_any (n:Nat) (w:World) (hn:n<4294967296):
 Calls Tryz.prog 17 #[.int .i64 (n:Nat)] w λe w'=>e= .returned (.slice (some ⟨w.heap.size,0,none⟩) 4 4)/\Rd w' (w.heap.size+1) (some ⟨w.heap.size,0,none⟩) 4 (be n 4)/\Below w.heap.size w w':=by
 go_enter Tryz.func17,Tryz.ntmps17;go_wp2;go_ret;refine⟨rfl,?_,(Below.refl _ _).alloc (Nat.le_refl _) _⟩;refine Rd.lits w _ (be n 4) 5 ?_;simp[be,bv];omega
theorem lawAck_any (w:World):Calls Tryz.prog 12 #[] w λe w'=>∃A c,e= .returned (.slice A 9 c)/\Ow w' w.heap.size 5 (.slice A 9 c) 9 (frameB 4 1 0 [])/\Below w.heap.size w w':=by
 have HF:=hid (lawFrame_any none 0 0 4 1 0 w.heap.size [] w ⟨rfl,λh=>absurd h (by omega)⟩ (Nat.le_refl _) (by omega) (by omega) (by omega) (by omega));go_enter Tryz.func12,Tryz.ntmps12;go_wp2_with fail;refine HF.out.mono ?_;rintro e w1 ⟨A',c',rfl,ho,hb⟩;have HO:=hid ho;have HB:=hid hb;clear ho hb;go_wp2;go_ret;exact⟨_,_,rfl,HO.out,HB.out⟩
theorem lawSetting_any (k v:Nat) (w:World) (hk:k<=255) (hv:v<4294967296):Calls Tryz.prog 31 #[.int .i64 (k:Nat),.int .i64 (v:Nat)] w λe w'=>∃A c,e= .returned (.slice A 6 c)/\Ow w' w.heap.size 5 (.slice A 6 c) 6 (be k 2++be v 4)/\Below w.heap.size w w':=by
 have HN:=hid (λW=>lawNumber_any v W hv);have HO:=hid (show Ow (w.alloc (.cells #[.int .u8 0,.int .u8 (k:Nat)] 5)) w.heap.size 5 (.slice (some ⟨w.heap.size,0,none⟩) 2 2) 2 (be k 2)from by
  have h:=Ow.lit w 5 (be k 2) (by rw[be_len];omega);have e:((be k 2).map bv).toArray= #[.int .u8 0,.int .u8 (k:Nat)]:=by
   simp[be,bv];omega
  rw[e,be_len]at h;exact h)
 clear hv;go_enter Tryz.func31,Tryz.ntmps31;go_wp2_with fail;refine(HN.out _).mono ?_;rintro e w1 ⟨rfl,hr,hb⟩;have HR:=hid hr;have HB:=hid hb;have h0:=hid (HO.out.below hb (λg hg=>(HO.out.lt hg).1));clear hr hb;go_wp2_with (first
  |(at_builtin
    refine wpList_app_any _ byteP rfl (.tmp 7) (.tmp 9) rfl w.heap.size _ 2 (be k 2) rfl h0.out _ _ 4 4 (be v 4) rfl (by first|exact HR.out|simpa using HR.out) ?_ ?_ ?_
    · omega
    · have:=HB.out.size;simp at this;omega
    intro A2 cap2 w2 h1 h2 _ _ _;have h3:=hid h1;have h4:=hid (below_own (((Below.refl w.heap.size w).alloc (Nat.le_refl _) (.cells #[.int .u8 0,.int .u8 (k:Nat)] 5)).trans (HB.out.mono (by simp))) (Nat.le_refl _) h0.out h2);clear h1 h2)
  |fail)
 go_ret;exact⟨_,_,rfl,h3.out,h4.out⟩
end Go.Proofs.YtkpppjhbmnfmkaaGreatDoor
end

section
set_option maxHeartbeats 4000000
set_option maxRecDepth 100000
namespace Go.Proofs.YtkpppjhbmnfmkaaGreatDoor
open Lib (hid)
open Go.RowKit Go.Own Go.Own.Fr
theorem hello2_any (w:World):Calls Tryz.prog 11 #[.int .i64 2] w λe w'=>∃A c,e= .returned (.slice A 33 c)/\Oz w' (λg=>w.heap.size<=g) (.slice A 33 c) (prefB++frameB 4 0 0 [])/\Below w.heap.size w w':=by
 have HF:=hid (lawFrame_any none 0 0 4 0 0 w.heap.size [] w ⟨rfl,λh=>absurd h (by omega)⟩ (Nat.le_refl _) (by omega) (by omega) (by omega) (by omega));go_enter Tryz.func11,Tryz.ntmps11;go_wp2_with fail;refine HF.out.mono ?_;rintro e w1 ⟨A1,c1,rfl,h6,h7⟩;have h8:=hid h6;have h1:=hid h7;clear h6 h7;go_wp2_with fail;refine(prefaceR_any w1).mono ?_;rintro e w2 ⟨rfl,h2,h3⟩;have h0:w1.heap.size<w2.heap.size:=by
  obtain⟨ad,e,hj,hc⟩:=h2.2 (by decide);injection e with e
  subst e;exact(World.block_lt_of_cell? w2 _ (hc 0 (by decide)))
 have he:=hid (Oz.full (own:=λg=>w.heap.size<=g) h2 h0 (by decide) h1.out.size (by decide));have hf:=hid ((h8.out.below h3 (λg hg=>(h8.out.lt hg).1)).rd);have h4:=hid (h1.out.trans (h3.mono h1.out.size));clear h2 h3 h0;have h5:prefB.length+(9+0)<=140737488355328:=by decide
 go_wp2_with (first
  |(refine wpList_app_z byteP _ rfl (.tmp 7) (.tmp 8) rfl (λg=>w.heap.size<=g) (.slice (some ⟨w1.heap.size,0,none⟩) 24 24) prefB rfl he.out w2.heap.size A1 (9+0) c1 (frameB 4 0 0 []) rfl hf.out h5 ?_
    intro A3 c3 w3 row3 h9 hb hd;have hh:=hid (h9.owned (own':=λg=>w.heap.size<=g) (λg _ h=>by rcases h with h|⟨_,h⟩;exact h;rw[h];exact h4.out.size));have hi:=hid (h4.out.grown hb h4.out.size (λg e=>(hd g e).1));clear h9 hb hd)
  |fail)
 go_ret;exact⟨A3,c3,rfl,hh.out,hi.out⟩
end Go.Proofs.YtkpppjhbmnfmkaaGreatDoor
end

section
set_option maxHeartbeats 1000000
set_option maxRecDepth 100000
namespace Go.Own.Cx
open Lib (hid)
open Go Go.RowKit Go.Own
structure Bar (X:Nat->Prop) (B:Nat) (w w':World):Prop where
 os:w'.os=w.os
 tape:w'.tape=w.tape
 output:w'.output=w.output
 size:w.heap.size<=w'.heap.size
 block:∀g,g<B->¬X g->w'.heap[g]?=w.heap[g]?
section
variable {X:Nat->Prop} {B B':Nat} {w w1 w2:World}
theorem Bar.refl (X:Nat->Prop) (B:Nat) (w:World):Bar X B w w:=⟨rfl,rfl,rfl,Nat.le_refl _,λ_ _ _=>rfl⟩
theorem Bar.trans (h:Bar X B w w1) (k:Bar X B w1 w2):Bar X B w w2:=⟨k.os.trans h.os,k.tape.trans h.tape,k.output.trans h.output,Nat.le_trans h.size k.size,λg hg hx=>(k.block g hg hx).trans (h.block g hg hx)⟩
theorem Bar.of (h:Below B w w1) (X:Nat->Prop):Bar X B w w1:=⟨h.os,h.tape,h.output,h.size,λg hg _=>h.block g hg⟩
theorem Bar.mono (h:Bar X B w w1) (hB:B'<=B):Bar X B' w w1:=⟨h.os,h.tape,h.output,h.size,λg hg=>h.block g (by omega)⟩
theorem Bar.setCell (h:Bar X B w w1) {p:Addr} (hp:B<=p.block\/X p.block) (v:Value):Bar X B w (w1.setCell p v):=
 ⟨h.os,h.tape,h.output,by simp[World.setCell];exact h.size,λg hg hx=>(Below.heap_setCell w1 p v g (λe=>by
   rcases hp with hp|hp
   · omega
   · exact hx (e▸hp))).trans (h.block g hg hx)⟩
theorem Bar.alloc (h:Bar X B w w1) (hB:B<=w1.heap.size) (o:Obj):Bar X B w (w1.alloc o):=h.trans (Bar.of ((Below.refl B w1).alloc hB o) X)
theorem Bar.drewN (h:Bar X B w w1) (n:Nat):Bar X B w (w1.drewN n):=h.trans (Bar.of (bdN (Below.refl B w1) n) X)
theorem Bar.drew (h:Bar X B w w1):Bar X B w w1.drew:=h.drewN 1
theorem Bar.grown (h:Bar X B w w1) {row:Option Nat} (hg:w1.grownBy w2 row) (hB:B<=w1.heap.size) (hr:∀g,row=some g->B<=g\/X g):Bar X B w w2:=
 ⟨hg.os.trans h.os,hg.tape.trans h.tape,hg.output.trans h.output,Nat.le_trans h.size hg.size,λg h0 hx=>(hg.block g (by omega) (λe=>by
   rcases hr g e.symm with h1|h1
   · omega
   · exact hx h1)).trans (h.block g h0 hx)⟩
theorem Bar.rd (h:Bar X B w w1) {n:Nat} {A:Option Addr} {l:List UInt8} (hr:Rd w B A n l) (hx:0<n->∀ad,A=some ad->¬X ad.block):Rd w1 B A n l:=
 ⟨hr.1,λhn=>by
   obtain⟨ad,e,hb,hc⟩:=hr.2 hn;exact⟨ad,e,hb,λj hj=>(World.cell?_of_block (a:=ad.add j) (by rw[add_block];exact h.block _ hb (hx hn ad e))).trans (hc j hj)⟩⟩
theorem Bar.blk (h:Bar X B w w1) {g:Nat} {t:TypeId} {cs:Array Value} (hb:Blk w g t cs) (hg:g<B) (hx:¬X g):Blk w1 g t cs:=(h.block g hg hx).trans hb
end
theorem hszs_hk (l:List Hd.HdrV):hszs l=Hk.hzs l:=rfl
def shrI (m:Int):List Hd.HdrV->List Hd.HdrV
 |[]=>[]
 |h::E=>if m<(hszs (h::E):Int)then shrI m E else h::E
theorem shrI_nat (m:Nat):∀E,shrI (m:Int) E=Hk.shrink m E
 |[]=>rfl
 |h::E=>by
  rw[shrI,Hk.shrink,shrI_nat m E,hszs_hk];by_cases hm:m<Hk.hzs (h::E)
  · rw[if_pos hm,if_pos (by omega)]
  · rw[if_neg hm,if_neg (by omega)]
theorem shrI_neg {m:Int} (hm:m<0):∀E,shrI m E=[]
 |[]=>rfl
 |h::E=>by rw[shrI,if_pos (by omega),shrI_neg hm E]
theorem hszs_cons' (h:Hd.HdrV) (E:List Hd.HdrV):hszs (h::E)=hsz h+hszs E:=by simp[hszs]
theorem hsz_32 (h:Hd.HdrV):32<=hsz h:=by unfold hsz;omega
theorem hszs_32:∀E:List Hd.HdrV,E.length*32<=hszs E
 |[]=>by simp[hszs]
 |h::E=>by rw[hszs_cons',List.length_cons];have:=hsz_32 h;have:=hszs_32 E;omega
end Go.Own.Cx
namespace Go.Proofs.YtkpppjhbmnfmkaaGreatDoor
open Lib (hid)
open Go.RowKit Go.Own Go.Own.Cx
attribute [local go_sem] Oper.semAt_some
structure RingC (cs:Array Value) (old:Nat) (E:List Hd.HdrV):Prop where
 size:cs.size=384
 lt:old<128
 le:E.length<=128
 at_:∀k h,E[k]?=some h->cs[(old+k) % 128*3]?=some (.string h.name)/\cs[(old+k) % 128*3+1]?=some (.string h.value)/\cs[(old+k) % 128*3+2]?=some (.bool h.never)
 any:∀j,j<128->∃h:Hd.HdrV,cs[j*3]?=some (.string h.name)/\cs[j*3+1]?=some (.string h.value)/\cs[j*3+2]?=some (.bool h.never)
def TabR (w:World) (g r:Nat) (E:List Hd.HdrV) (mo:Nat):Prop:=
 ∃(old:Nat) (cs:Array Value),Blk w g 179 #[.slice (some ⟨r,0,none⟩) 128 128,.int .i64 (old:Nat),.int .i64 (E.length:Nat),.int .i64 (hszs E:Nat),.int .i64 (mo:Nat)]/\Blk w r 63 cs/\RingC cs old E/\hszs E<=4096
theorem blk_ne {w:World} {g r:Nat} {t t':TypeId} {cs cs':Array Value} (h:Blk w g t cs) (k:Blk w r t' cs') (ht:t≠t'):g≠r:=λe=>by
 subst e;have:=h.symm.trans k;injection this with this
 injection this with _ this
 exact ht this
section
variable {w w':World} {g r mo:Nat} {E:List Hd.HdrV}
theorem TabR.ne (h:TabR w g r E mo):g≠r:=by
 obtain⟨old,cs,h1,h2,_⟩:=h;exact blk_ne h1 h2 (by decide)
theorem TabR.lt (h:TabR w g r E mo):g<w.heap.size/\r<w.heap.size:=by
 obtain⟨old,cs,h1,h2,_⟩:=h;exact⟨h1.lt,h2.lt⟩
theorem TabR.keep (h:TabR w g r E mo) (h1:w'.heap[g]?=w.heap[g]?) (h2:w'.heap[r]?=w.heap[r]?):TabR w' g r E mo:=by
 obtain⟨old,cs,k1,k2,k⟩:=h;exact⟨old,cs,h1.trans k1,h2.trans k2,k⟩
theorem TabR.below {B:Nat} (h:TabR w g r E mo) (hb:Below B w w') (hg:g<B) (hr:r<B):TabR w' g r E mo:=h.keep (hb.block g hg) (hb.block r hr)
theorem TabR.drewN (h:TabR w g r E mo) (n:Nat):TabR (w.drewN n) g r E mo:=h
theorem TabS.ring {own:Nat->Prop} {m:Nat} (h:TabS w own g E m):∃r,TabR w g r E m/\own g/\own r/\hszs E<=m/\m<=4096:=by
 obtain⟨r,old,cs,h1,h2,h3,h4,h5,h6,h7,h8,h9,h0⟩:=h;exact⟨r,⟨old,cs,h1,h2,⟨h5,h6,by have:=hszs_32 E;omega,h9,h0⟩,by omega⟩,h3,h4,h7,h8⟩
theorem TabR.tabS {own:Nat->Prop} (h:TabR w g r E mo) (h3:own g) (h4:own r) (h5:hszs E<=mo) (h6:mo<=4096):TabS w own g E mo:=by
 obtain⟨old,cs,h1,h2,h,_⟩:=h;exact⟨r,old,cs,h1,h2,h3,h4,h.size,h.lt,h5,h6,h.at_,h.any⟩
end
theorem tat_any (w:World) (g r old len i:Nat) (sv mv:Value) (hb:Blk w g 179 #[.slice (some ⟨r,0,none⟩) 128 128,.int .i64 (old:Nat),.int .i64 (len:Nat),sv,mv]) (ho:old<128) (hl:len<=128) (hi:i<len):
 Calls Tryz.prog 172 #[.pointer (some ⟨g,0,none⟩),.int .i64 (i:Nat)] w λe w'=>e= .returned (.int .i64 ((old+len-1-i) % 128:Nat))/\∃n,w'=w.drewN n:=by
 have c0:w.cell? ⟨g,0,none⟩=some (.slice (some ⟨r,0,none⟩) 128 128):=hb.cell 0;have c1:w.cell? ⟨g,1,none⟩=some (.int .i64 (old:Nat)):=hb.cell 1;have c2:w.cell? ⟨g,2,none⟩=some (.int .i64 (len:Nat)):=hb.cell 2;have h0:=hb.lt;have e1:wrap64 ((old:Int)+len)=(old:Int)+len:=by unfold wrap64;omega
 have e2:wrap64 ((old:Int)+len-1)=(old:Int)+len-1:=by unfold wrap64;omega
 have e3:wrap64 ((old:Int)+len-1-i)=((old+len-1-i:Nat):Int):=by unfold wrap64;omega
 have e4:((old+len-1-i:Nat):Int).tmod 128=((old+len-1-i) % 128:Nat):=rfl;have HE:=hid (And.intro (And.intro e1 e2) (And.intro e3 e4));clear hb ho hl hi e1 e2 e3 e4;go_enter Tryz.func172,Tryz.ntmps172;go_wp2_with fail;go_quiet (fail);go_wp2;go_ret;exact⟨by simp[HE.out.1.1,HE.out.1.2,HE.out.2.1,HE.out.2.2],_,rfl⟩
end Go.Proofs.YtkpppjhbmnfmkaaGreatDoor
end

section
namespace Go.Own.Cm
open Go Go.RowKit Go.Own
end Go.Own.Cm
namespace Go.Own
open Go.RowKit
end Go.Own
end
