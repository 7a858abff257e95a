/-
  
  
  
  
  
  
  
  
  
  
  
  
  
  
  
  
  
  
  
-/
import Derived.Test.YtkpppjhbmnfmkaaGreatDoorJaa
import Derived.Deep.AppendSrc
import Derived.Deep.Upon
import Derived.Maps.OwnSet
import Derived.Maps.OwnOps
import Derived.Maps.RangeWalk
import Derived.Maps.StringElems
import Derived.Test.YtkpppjhbmnfmkaaGreatDoorJac
import Derived.Test.YtkpppjhbmnfmkaaGreatDoorProg
import Derived.Test.YtkpppjhbmnfmkaaGreatDoorJaf
import Derived.Lib.SlBytesConst
import Derived.Test.YtkpppjhbmnfmkaaGreatDoorShelf
import Derived.Deep.CutBlock
import Derived.Scope
import Derived.WalkMore
import Derived.Test.YtkpppjhbmnfmkaaGreatDoorJah
import Derived.DeepKeys4
import Derived.Deep.RegionLaw
import Derived.Deep.DrawnRows
import Derived.ScopeJumps
import Derived.Tactics
import Derived.Test.YtkpppjhbmnfmkaaGreatDoorFa
import Derived.BigRegion
set_option linter.unusedSimpArgs false
set_option linter.unusedVariables false
section
namespace Go.Own
open Go Go.RowKit
theorem tape_setCells (g:Nat):∀(vs:List Value) (o:Nat) (w:World),(w.setCells g o vs).tape=w.tape
 |[],_,_=>rfl
 |_::r,o,w=>(tape_setCells g r (o+1) _).trans rfl
theorem size_setCells (g:Nat):∀(vs:List Value) (o:Nat) (w:World),(w.setCells g o vs).heap.size=w.heap.size
 |[],_,_=>rfl
 |_::r,o,w=>(size_setCells g r (o+1) _).trans (by simp[World.setCell])
theorem grown_setCells (w:World) (g o:Nat) (vs:List Value):w.grownBy (w.setCells g o vs) (some g):=
 ⟨World.os_setCells w g o vs,tape_setCells g vs o w,World.output_setCells w g o vs,by rw[size_setCells];exact Nat.le_refl _,λi hi hne=>World.heap_setCells_other w g o vs hi (λe=>hne (by rw[e]))⟩
def Oz (w:World) (own:Nat->Prop) (v:Value) (l:List UInt8):Prop:=
 ∃A c,v= .slice A l.length c/\l.length<=c/\c<=maxLen/\(0<c->∃g off,A=some ⟨g,off,none⟩/\own g/\g<w.heap.size/\
  (∀j,l.length<=j->j<c->(w.cell? ⟨g,off+j,none⟩).isSome=true/\w.frozen? ⟨g,off+j,none⟩=false)/\∀j,j<l.length->w.cell? ⟨g,off+j,none⟩=some (bv (l.getD j 0)))
section
variable {w w':World} {own own':Nat->Prop} {v:Value} {l:List UInt8}
theorem Oz.nil (w:World) (own:Nat->Prop):Oz w own (.slice none 0 0) []:=⟨none,0,rfl,Nat.le_refl _,by simp[maxLen],λh=>absurd h (Nat.lt_irrefl _)⟩
theorem Oz.owned (h:Oz w own v l) (hm:∀g,g<w.heap.size->own g->own' g):Oz w own' v l:=by
 obtain⟨A,c,rfl,h1,h2,h3⟩:=h;exact⟨A,c,rfl,h1,h2,λhc=>by
  obtain⟨g,off,e,ho,h0,r⟩:=h3 hc;exact⟨g,off,e,hm g h0 ho,h0,r⟩⟩
theorem Oz.keep (h:Oz w own v l) (hk:∀g,g<w.heap.size->own g->w'.heap[g]?=w.heap[g]?) (hs:w.heap.size<=w'.heap.size):Oz w' own v l:=by
 obtain⟨A,c,rfl,h1,h2,h3⟩:=h;refine⟨A,c,rfl,h1,h2,λhc=>?_⟩;obtain⟨g,off,e,ho,h0,h4,h5⟩:=h3 hc;have hh:=hk g h0 ho;have e1:∀j,w'.cell? ⟨g,j,none⟩=w.cell? ⟨g,j,none⟩:=λj=>World.cell?_of_block (a:=⟨g,j,none⟩) hh;have e2:∀j,w'.frozen? ⟨g,j,none⟩=w.frozen? ⟨g,j,none⟩:=λj=>World.frozen?_of_block (a:=⟨g,j,none⟩) hh;exact⟨g,off,e,ho,Nat.lt_of_lt_of_le h0 hs,λj hl hj=>by rw[e1,e2];exact h4 j hl hj,λj hj=>by rw[e1];exact h5 j hj⟩
theorem Oz.grown {row:Option Nat} (h:Oz w own v l) (hg:w.grownBy w' row) (hn:∀g,row=some g->¬own g):Oz w' own v l:=
 h.keep (λg h0 ho=>hg.block g h0 (λe=>hn g e.symm ho)) hg.size
theorem Oz.drew (h:Oz w own v l):Oz w.drew own v l:=h
theorem Oz.form (h:Oz w own v l):∃A c,v= .slice A l.length c/\l.length<=c/\c<=maxLen:=by
 obtain⟨A,c,e,h1,h2,_⟩:=h;exact⟨A,c,e,h1,h2⟩
theorem Oz.rd {A:Option Addr} {n c:Nat} (h:Oz w own (.slice A n c) l):Rd w w.heap.size A n l:=by
 obtain⟨A',c',e,h1,h2,h3⟩:=h;injection e with e1 e2 e3
 subst e1 e2 e3;refine⟨rfl,λhn=>?_⟩;obtain⟨g,off,rfl,_,h0,_,h4⟩:=h3 (by omega);exact⟨_,rfl,h0,λj hj=>by rw[Addr.add_lit];exact h4 j hj⟩
theorem Oz.of_ow {base:Nat} {e:TypeId} {n:Nat} (h:Ow w base e v n l) (ho:∀g,v.ownBlock=some g->own g):Oz w own v l:=by
 have hl:=h.len;subst hl;have hb:=h.2;rcases hb with⟨rfl,h0⟩|⟨g,cap,cur,rfl,_,hg,hn,hm,hs,_⟩
 · have:l=[]:=List.eq_nil_of_length_eq_zero h0
   subst this;exact Oz.nil w own
 · have h1:g<w.heap.size:=by
    rcases Nat.lt_or_ge g w.heap.size with h1|h2
    · exact h1
    · rw[Array.getElem?_eq_none h2]at hg;cases hg
   refine⟨_,cap,rfl,hn,hm,λhc=>⟨g,0,rfl,ho g rfl,h1,λj _ hj=>?_,λj hj=>?_⟩⟩
   · have e1:=cell_of_row w g (0+j) cur e (0,0) hg
     have h3:0+j<cur.size:=by rw[hs];omega
     refine⟨?_,by simp[World.frozen?,hg]⟩;rw[e1,Array.getElem?_eq_getElem h3]
     rfl
   · obtain⟨ad,e',_,hc⟩:=(Ow.rd (w:=w) (base:=base) (e:=e) (A:=some ⟨g,0,none⟩) (cap:=cap) h).2 (by omega)
     injection e' with e'
     subst e';have:=hc j hj;rw[Addr.add_lit]at this;exact this
theorem Oz.full {w:World} {own:Nat->Prop} {g n:Nat} {l:List UInt8} {B:Nat} (h:Rd w B (some ⟨g,0,none⟩) n l) (hB:B<=w.heap.size) (hn:n<=1000000) (hg:own g) (h0:0<n):Oz w own (.slice (some ⟨g,0,none⟩) n n) l:=by
 have hl:=h.1;subst hl;obtain⟨ad,e,hb,hc⟩:=h.2 h0;injection e with e
 subst e;refine⟨_,l.length,rfl,Nat.le_refl _,by simp only[maxLen];omega,λ_=>⟨g,0,rfl,hg,Nat.lt_of_lt_of_le hb hB,λj h1 h2=>absurd h1 (by omega),λj hj=>?_⟩⟩;have:=hc j hj;rw[Addr.add_lit]at this;exact this
theorem Oz.cut {A:Option Addr} {n c k:Nat} (h:Oz w own (.slice A n c) l) (hk:k<=n):Oz w own (.slice (if c=k then A else A.map λx=>x.add k) (n-k) (c-k)) (l.drop k):=by
 obtain⟨A',c',e,h1,h2,h3⟩:=h;injection e with e1 e2 e3
 subst e1 e2 e3;refine⟨_,c-k,by rw[List.length_drop],by rw[List.length_drop];omega,by omega,λhc=>?_⟩;obtain⟨g,off,rfl,ho,h0,hs,h4⟩:=h3 (by omega);refine⟨g,off+k,?_,ho,h0,λj hl hj=>?_,λj hj=>?_⟩
 · rw[if_neg (by omega)]
   simp[Addr.add_lit]
 · rw[List.length_drop]at hl
   rw[Nat.add_assoc];exact hs (k+j) (by omega) (by omega)
 · rw[List.length_drop]at hj
   rw[Nat.add_assoc,h4 (k+j) (by omega)];simp
end
theorem run_app_z {P:Program} {t e:TypeId} (hP:ByteP P t e) (w:World) (ty:TypeId) (own:Nat->Prop) (v:Value) (l:List UInt8) (h:Oz w own v l) (B:Nat) (A:Option Addr) (m c:Nat) (l2:List UInt8) (hr:Rd w B A m l2) (hb:l.length+m<=140737488355328):
 ∃v' w' row,(Builtin.append_ #[t,t] ty #[v,.slice A m c]).run P w= .ok v' w'/\Oz w' (λg=>own g\/(row=none/\g=w.heap.size)) v' (l++l2)/\w.grownBy w' row/\(∀g,row=some g->own g/\g<w.heap.size):=by
 obtain⟨i,hi,hz,h1,h2⟩:=hP.info;obtain⟨A0,c0,rfl,hd,he,ho⟩:=h;have h3:=hr.1;have hw:maxLen=9223372036854775807:=rfl;have hs:Src P i.size t (.slice A m c) m (l2.map bv) w:=by
  rcases A with _|ad
  · obtain⟨rfl,rfl⟩:=hr.none_zero
    exact Src.ofNil _ hP.slice c
  · exact Src.ofSlice _ hP.slice ad m c _ (by simp[h1,h3]) hr.cells bv_one
 have h8:(l2.map bv).length=m:=by simp[h3]
 by_cases h5:l.length+m<=c0
 · by_cases hh:c0=0
   · subst hh
     have hm:m=0:=by omega
     subst hm;have e2:l2=[]:=List.eq_nil_of_length_eq_zero h3;subst e2;have h4:=run_append_nothing (P:=P) w t t ty e i hP.slice hi A0 l.length 0 hd (.slice A 0 c) hs;exact⟨_,w,none,h4,⟨A0,0,by simp,by simpa using hd,he,λh=>absurd h (Nat.lt_irrefl _)⟩,World.grownBy.refl w _,λg e=>by cases e⟩
   · obtain⟨g,off,rfl,hg,hf,h7,h9⟩:=ho (by omega)
     have h6:∀j,j<(l2.map bv).length->(w.cell? ⟨g,off+l.length*i.size+j,none⟩).isSome=true:=λj hj=>by
      rw[h1,Nat.mul_one,Nat.add_assoc];exact(h7 (l.length+j) (by omega) (by omega)).1
     have h4:=run_append_room_src (P:=P) w t t ty e i hP.slice hi g off l.length c0 (.slice A m c) m _ hs h5 h6
      (λj hj=>by rw[h1,Nat.mul_one,Nat.add_assoc];exact(h7 (l.length+j) (by omega) (by omega)).2)
     refine⟨_,_,some g,h4,⟨_,c0,by rw[List.length_append,h3],by rw[List.length_append,h3];exact h5,he,λ_=>⟨g,off,rfl,.inl hg,?_,λj hl hj=>⟨?_,?_⟩,λj hj=>?_⟩⟩,grown_setCells w g _ _,λg' e=>by injection e with e;subst e;exact⟨hg,hf⟩⟩
     · rw[size_setCells];exact hf
     · rw[List.length_append,h3]at hl
       rw[World.cell?_setCells_out g _ _ _ _ (λ_ _=>by rw[h1,h8];show off+j<off+l.length*1\/off+l.length*1+m<=off+j;omega)];exact(h7 j (by omega) hj).1
     · rw[List.length_append,h3]at hl
       rw[World.frozen?_setCells];exact(h7 j (by omega) hj).2
     · rw[List.length_append,h3]at hj
       by_cases hn:l.length<=j
       · have:=World.cell?_setCells_in g (l2.map bv) (off+l.length*i.size) w h6 (j-l.length) (by omega)
         rw[h1,Nat.mul_one,show off+l.length+(j-l.length)=off+j by omega]at this;rw[h1,Nat.mul_one,this,List.getElem_map,List.getD_eq_getElem?_getD,List.getElem?_append_right hn,List.getElem?_eq_getElem (by omega)]
         rfl
       · rw[World.cell?_setCells_out g _ _ _ _ (λ_ _=>by rw[h1,h8];show off+j<off+l.length*1\/off+l.length*1+m<=off+j;omega),h9 j (by omega),List.getD_eq_getElem?_getD,List.getD_eq_getElem?_getD,List.getElem?_append_left (by omega)]
 · have hc:(Builtin.firstCells i.size l.length (.slice A0 l.length c0)).run P w.drew= .ok (l.map bv).toArray w.drew:=by
    rcases Nat.eq_zero_or_pos l.length with h0|h0
    · have e0:l=[]:=List.eq_nil_of_length_eq_zero h0
      subst e0;rcases A0 with _|a0
      · exact run_firstCells_none w.drew i.size 0 0 c0
      · exact run_firstCells_some w.drew i.size 0 a0 0 c0 [] (by simp) (by intro _ _ h';simp at h')
    · obtain⟨g,off,rfl,_,_,_,h9⟩:=ho (by omega)
      refine run_firstCells_some w.drew i.size l.length ⟨g,off,none⟩ l.length c0 _ (by simp[h1]) (λj u hu=>?_);have hj:j<l.length:=by have:=(List.getElem?_eq_some_iff.1 hu).1;simpa using this
      rw[Addr.add_lit];refine(h9 j hj).trans ?_;rw[<-hu,List.getElem?_map,List.getD_eq_getElem?_getD,List.getElem?_eq_getElem hj]
      rfl
   have h4:=run_append_grow_src (P:=P) w t t ty e i _ hP.slice hi hz A0 l.length c0 (l.map bv) hc (.slice A m c) m _ hs (by omega) (by omega) (growslice_fits (by omega) (by rw[h2];omega));have hq:=grownCap_ge w (l.length+m) c0 e;have ht:=grownCap_le_maxLen w (l.length+m) c0 e (by omega);refine⟨_,_,none,h4,⟨_,grownCap w (l.length+m) c0 e,by rw[List.length_append,h3],by rw[List.length_append,h3];exact hq,ht,λ_=>⟨w.heap.size,0,rfl,.inr ⟨rfl,rfl⟩,?_,λj _ hj=>⟨?_,?_⟩,λj hj=>?_⟩⟩,⟨rfl,rfl,rfl,by simp,λk hk _=>Below.heap_alloc w.drew _ k hk⟩,λg e=>by cases e⟩
   · simp
   · have hsz:((l.map bv++l2.map bv).toArray++Builtin.zeroCells (Value.int .u8 0).cells (grownCap w (l.length+m) c0 e-(l.length+m))).size=grownCap w (l.length+m) c0 e:=by
      rw[Array.size_append,List.size_toArray,List.length_append,List.length_map,h8,size_zeroCells];show l.length+m+(grownCap w (l.length+m) c0 e-(l.length+m))*1=_;omega
     have e1:=World.cell?_alloc_new w.drew ((l.map bv++l2.map bv).toArray++Builtin.zeroCells (Value.int .u8 0).cells (grownCap w (l.length+m) c0 e-(l.length+m))) e (0+j);refine(congrArg Option.isSome e1).trans ?_;rw[Array.getElem?_eq_getElem (by rw[hsz];omega)]
     rfl
   · exact World.frozen?_alloc_new w.drew _ _ _
   · rw[List.length_append,h3]at hj
     have e1:=World.cell?_alloc_new w.drew ((l.map bv++l2.map bv).toArray++Builtin.zeroCells (Value.int .u8 0).cells (grownCap w (l.length+m) c0 e-(l.length+m))) e (0+j);refine e1.trans ?_;rw[Array.getElem?_append_left (by simp[h3];omega),<-List.map_append,List.getElem?_toArray,List.getElem?_map,Nat.zero_add,List.getD_eq_getElem?_getD,List.getElem?_eq_getElem (by rw[List.length_append,h3];exact hj)]
     rfl
section
variable {P:Program} {ops:Array Oper} {rest:List Oper} {o:Oper} {a:Act} {Q:Exit->Act->World->Prop} {K:Act->World->Prop} {E:Prop} {t e:TypeId}
theorem wpList_app_z (hP:ByteP P t e) (w:World) (hgd:o.guard=none) (s x:Operand) (ho:o.op= .call {callee:=.builtin .append,args:=#[s,x],argTypes:=#[t,t]})
 (own:Nat->Prop) (v:Value) (l:List UInt8) (hs:a.eval s=v) (h:Oz w own v l) (B:Nat) (A:Option Addr) (m c:Nat) (l2:List UInt8) (hx:a.eval x= .slice A m c) (hr:Rd w B A m l2) (hb:l.length+m<=140737488355328)
 (hK:∀A' c' w' row,Oz w' (λg=>own g\/(row=none/\g=w.heap.size)) (.slice A' (l.length+m) c') (l++l2)->w.grownBy w' row->(∀g,row=some g->own g/\g<w.heap.size)->wpList P ops Q rest (a.put o.dst (.slice A' (l.length+m) c')) w'):wpList P ops Q (o::rest) a w:=by
 refine wpList_plain hgd λK h1=>?_;obtain⟨v',w',row,h0,r1,r2,r3⟩:=run_app_z hP w o.type own v l h B A m c l2 hr hb;obtain⟨A',c',rfl,_,_⟩:=r1.form;rw[List.length_append,hr.1]at h0 r1;unfold Oper.wp execOp;simp only[ho,resolve,invoke,builtin,Sem.run_bind,Sem.run_pure,Result.andThen_ok,List.map_toArray,List.map_cons,List.map_nil,hs,hx,h0];exact h1 _ _ (hK A' c' w' row r1 r2 r3)
theorem step_app_z (hP:ByteP P t e) (w:World) (h1:o.guard=none) (s x:Operand) (ho:o.op= .call {callee:=.builtin .append,args:=#[s,x],argTypes:=#[t,t]})
 (own:Nat->Prop) (v:Value) (l:List UInt8) (hs:a.eval s=v) (h:Oz w own v l) (B:Nat) (A:Option Addr) (m c:Nat) (l2:List UInt8) (hx:a.eval x= .slice A m c) (hr:Rd w B A m l2) (hb:l.length+m<=140737488355328)
 (hK:∀A' c' w' row,Oz w' (λg=>own g\/(row=none/\g=w.heap.size)) (.slice A' (l.length+m) c') (l++l2)->w.grownBy w' row->(∀g,row=some g->own g/\g<w.heap.size)->K (a.put o.dst (.slice A' (l.length+m) c')) w'):
 if Region.wanted o (yielded ops a.tmps)=true then Oper.wp P o a w K Q else E:=by
 have hw:Region.wanted o (yielded ops a.tmps)=true:=by simp[Region.wanted,h1]
 rw[if_pos hw];obtain⟨v',w',row,h0,r1,r2,r3⟩:=run_app_z hP w o.type own v l h B A m c l2 hr hb;obtain⟨A',c',rfl,_,_⟩:=r1.form;rw[List.length_append,hr.1]at h0 r1;unfold Oper.wp execOp;simp only[ho,resolve,invoke,builtin,Sem.run_bind,Sem.run_pure,Result.andThen_ok,List.map_toArray,List.map_cons,List.map_nil,hs,hx,h0];exact hK A' c' w' row r1 r2 r3
end
end Go.Own
end

section
namespace Go.Own.Im
open Go Go.RowKit Go.Own
def Rh (v:Value):Option (DataW Value×List MemPlace):=some (.held v,[])
def il (k:Int):Lit:=.int .i64 k
theorem keyLit (k:Int):WideAt.IsKeyLit (il k):=by simp[il,WideAt.IsKeyLit]
theorem il_ne {a b:Int} (h:a≠b):il a≠il b:=λe=>h (by injection e)
def HM (P:Program) (kt:TypeId) (w:World) (b n:Nat) (f:Int->Option Value):Prop:=
 ∃D,w.ownsMap P kt Rh b n D/\Maps.IsMap D/\∀k,Maps.has D (il k)=(f k).isSome/\∀z v,f k=some v->D.atKey (il k) z= .held v
section
variable {P:Program} {kt:TypeId} {w w':World} {b n:Nat} {f:Int->Option Value}
theorem HM.lt (h:HM P kt w b n f):b<w.heap.size:=by
 obtain⟨D,h1,_⟩:=h;exact h1.lt
theorem HM.kept {row:Option Nat} (h:HM P kt w b n f) (hg:w.grownBy w' row) (hne:some b≠row):HM P kt w' b n f:=by
 obtain⟨D,h1,h2⟩:=h;exact⟨D,h1.kept hg hne,h2⟩
theorem HM.alloc (h:HM P kt w b n f) (o:Obj):HM P kt (w.alloc o) b n f:=h.kept (World.grownBy_alloc w o none) (by simp)
theorem HM.same (h:HM P kt w b n f) {g:Int->Option Value} (hg:∀k,f k=g k):HM P kt w b n g:=by
 have:f=g:=funext hg;exact this▸h
theorem HM.made (P:Program) (kt:TypeId) (w:World):HM P kt (w.alloc (.map #[] 0)) w.heap.size 0 λ_=>none:=
 ⟨.map [],World.ownsMap_made w P kt Rh,Maps.isMap_empty,λ_=>⟨rfl,λ_ _ h=>by cases h⟩⟩
variable {t e:TypeId} (ht:P.underlying t=some (.map kt e)) (hk:P.underlying kt=some (.int .i64))
include ht hk
theorem HM.look (h:HM P kt w b n f) {z:Value} (hz:(zeroValue e).run P w= .ok z w) {k:Int} (hw:(Lit.int .i64 k).wf=true):
 (Instr.lookup t (.map (some b)) (.int .i64 k) false).run P w= .ok ((f k).getD z) w:=by
 obtain⟨D,h1,h2,h3⟩:=h;obtain⟨v,ps,h0,hv⟩:=h1.lookup (Maps.int_keyed hk) ht hz (zd:=.held z) (zp:=[]) rfl (Maps.keyOf_int_mk hk hw);rw[h0];cases hf:f k with
 |none=>
  have hn:=(h3 k).1;rw[hf]at hn;change Rh v=some (D.atKey (il k) _,ps)at hv;rw[Maps.atKey_of_not_has hn]at hv;simp only[Rh,Option.some.injEq,Prod.mk.injEq,DataW.held.injEq]at hv;rw[hv.1];rfl
 |some u=>
  change Rh v=some (D.atKey (il k) _,ps)at hv;rw[(h3 k).2 _ u hf]at hv;simp only[Rh,Option.some.injEq,Prod.mk.injEq,DataW.held.injEq]at hv;rw[hv.1];rfl
theorem HM.look_ok (h:HM P kt w b n f) {z:Value} (hz:(zeroValue e).run P w= .ok z w) {k:Int} (hw:(Lit.int .i64 k).wf=true):
 (Instr.lookup t (.map (some b)) (.int .i64 k) true).run P w= .ok (.tuple #[(f k).getD z,.bool (f k).isSome]) w:=by
 obtain⟨D,h1,h2,h3⟩:=h;obtain⟨v,ps,h0,hv⟩:=h1.look_ok (Maps.int_keyed hk) ht hz (zd:=.held z) (zp:=[]) rfl (Maps.keyOf_int_mk hk hw);rw[h0];change _=Result.ok (Value.tuple #[_,.bool (f k).isSome]) w;rw[<-(h3 k).1];refine congrArg (λx=>Result.ok (Value.tuple #[x,.bool (Maps.has D (il k))]) w) ?_;cases hf:f k with
 |none=>
  have hn:=(h3 k).1;rw[hf]at hn;change Rh v=some (D.atKey (il k) _,ps)at hv;rw[Maps.atKey_of_not_has hn]at hv;simp only[Rh,Option.some.injEq,Prod.mk.injEq,DataW.held.injEq]at hv;rw[hv.1];rfl
 |some u=>
  change Rh v=some (D.atKey (il k) _,ps)at hv;rw[(h3 k).2 _ u hf]at hv;simp only[Rh,Option.some.injEq,Prod.mk.injEq,DataW.held.injEq]at hv;rw[hv.1];rfl
theorem HM.put (h:HM P kt w b n f) (hn:n<maxLen) {k:Int} (hw:(Lit.int .i64 k).wf=true) (v:Value):
 ∃w',(Instr.mapUpdate t (.map (some b)) (.int .i64 k) v).run P w= .ok () w'/\HM P kt w' b (n+1) (λx=>if x=k then some v else f x)/\w.grownBy w' (some b):=by
 obtain⟨D,h1,h2,h3⟩:=h;obtain⟨w',h0,r1,r2⟩:=h1.update (Maps.int_keyed hk) ht hn (Maps.keyOf_int_mk hk hw) (val:=v) (d:=.held v) (ps:=[]) rfl;refine⟨w',h0,⟨_,r1,h2.put _ _,λx=>?_⟩,r2⟩;by_cases e:x=k
 · subst e
   simp only[if_pos];exact⟨Maps.has_put_same h2 (keyLit _) _,λz u hu=>by injection hu with hu;subst hu;exact Maps.atKey_put_same h2 (keyLit _) _ _⟩
 · simp only[if_neg e]
   refine⟨(Maps.has_put_other (il_ne e) _).trans (h3 x).1,λz u hu=>?_⟩;exact(Maps.atKey_put_other (il_ne e) _ _).trans ((h3 x).2 z u hu)
end
section
variable {P:Program} {ops:Array Oper} {rest:List Oper} {o:Oper} {a:Act} {Q:Exit->Act->World->Prop}
theorem wpList_put (w:World) (hg:o.guard=none) (m x v:Operand) (t:TypeId) (h0:o.op=Op.insert t m x v\/o.op=Op.mapUpdate t m x v) {kt e:TypeId} (ht:P.underlying t=some (.map kt e)) (hk:P.underlying kt=some (.int .i64))
 (b n:Nat) (f:Int->Option Value) (hm:a.eval m= .map (some b)) (h:HM P kt w b n f) (hn:n<maxLen) (k:Int) (hw:(Lit.int .i64 k).wf=true) (hx:a.eval x= .int .i64 k) (u:Value) (hv:a.eval v=u)
 (hK:∀w',HM P kt w' b (n+1) (λx=>if x=k then some u else f x)->w.grownBy w' (some b)->wpList P ops Q rest (a.put o.dst undef) w'):wpList P ops Q (o::rest) a w:=by
 refine wpList_plain hg λK' h2=>?_;obtain⟨w',h1,r1,r2⟩:=h.put ht hk hn hw u;unfold Oper.wp;rcases h0 with h0|h0<;>simp[execOp,h0,hm,hx,hv,h1,Result.andThen]<;>exact h2 _ _ (hK w' r1 r2)
end
end Go.Own.Im
end

section
namespace Go.Own.Cx
open Go Go.RowKit Go.Own
inductive Tg where
 |no|cn|fed|out|ev|evd|inw|outw|map|lst|blk|enc|dec
 |st (id k:Nat)
 deriving DecidableEq
structure EvV where
 kind:Nat:=0
 stream:Nat:=0
 code:Nat:=0
 last:Nat:=0
 fin:Bool:=false
 la:Option Addr:=none
 lc:Nat:=0
 ba:Option Addr:=none
 bc:Nat:=0
 l:List Hd.HdrV:=[]
 by_:List UInt8:=[]
def evC (e:EvV):Array Value:=#[.int .i64 (e.kind:Nat),.int .i64 (e.stream:Nat),.int .i64 (e.code:Nat),.int .i64 (e.last:Nat),.bool e.fin,.slice e.la e.l.length e.lc,.slice e.ba e.by_.length e.bc]
structure Sv where
 id:Nat
 own:Nat:=0
 other:Nat:=0
 inw:Int
 outw:Int
 waits:List UInt8:=[]
 trails:Bool:=false
 held:Nat:=0
structure HpM where
 dt:Hk.TM:={}
 dgone:Bool:=false
 et:Hk.TM:={}
 asked:Bool:=false
 least:Nat:=0
structure Cv where
 side:Nat
 cw:Int
 cs:Int
 fed:List UInt8:=[]
 greeted:Bool:=false
 preface:Nat:=0
 out:List UInt8:=[]
 evs:List EvV:=[]
 inw:Int:=65535
 outw:Int:=65535
 window:Int:=65535
 others:Int:=65535
 limit:Int:=2147483647
 acked:Bool:=false
 last:Nat:=0
 strs:List Sv:=[]
 list:Option (Nat×Bool×List UInt8):=none
 bye:Bool:=false
 gone:Bool:=false
 dead:Bool:=false
 code:Nat:=0
 hp:HpM:={}
structure SLay where
 sb:Nat:=0
 ib:Nat:=0
 ob:Nat:=0
 pb:Nat:=0
 rb:Nat:=0
 waits:Value:=.slice none 0 0
 trl:Value:=.slice none 0 0
structure Lay where
 fed:Value:=.slice none 0 0
 out:Value:=.slice none 0 0
 ev:Value:=.slice none 0 0
 ib:Nat
 ob:Nat
 mb:Nat
 list:Value:=.pointer none
 enc:Nat
 dec:Nat
 s:Nat->SLay:=λ_=>{}
def cnC (M:Cv) (L:Lay):Array Value:=
 #[.int .i64 (M.side:Nat),.int .i64 M.cw,.int .i64 M.cs,L.fed,.bool M.greeted,.int .i64 (M.preface:Nat),L.out,L.ev,.pointer (some ⟨L.ib,0,none⟩),.pointer (some ⟨L.ob,0,none⟩),.int .i64 M.window,.int .i64 M.others,.int .i64 M.limit,.bool M.acked,.int .i64 (M.last:Nat),.map (some L.mb),L.list,.bool M.bye,.bool M.gone,.bool M.dead,.int .i64 (M.code:Nat),.pointer (some ⟨L.enc,0,none⟩),.pointer (some ⟨L.dec,0,none⟩)]
def stC (s:Sv) (L:SLay):Array Value:=
 #[.int .i64 (s.id:Nat),.int .i64 (s.own:Nat),.int .i64 (s.other:Nat),.pointer (some ⟨L.ib,0,none⟩),.pointer (some ⟨L.ob,0,none⟩),.pointer (some ⟨L.pb,0,none⟩),L.waits,.bool s.trails,L.trl,.int .i64 (s.held:Nat)]
end Go.Own.Cx
end

section
namespace Go.Own.Im
open Go Go.RowKit Go.Own
def SM (P:Program) (kt:TypeId) (w:World) (b:Nat) (ks:List Nat) (f:Nat->Value):Prop:=
 ∃D,w.ownsMap P kt Rh b ks.length D/\Maps.Tidy D/\Maps.size D=ks.length/\(∀k:Int,Maps.has D (il k)=ks.any λi:Nat=>decide ((i:Int)=k))/\∀i∈ks,∀z,D.atKey (il (i:Int)) z= .held (f i)
section
variable {P:Program} {kt:TypeId} {w w':World} {b:Nat} {ks:List Nat} {f:Nat->Value}
theorem own_tight {R:Value->Option (DataW Value×List MemPlace)} {n:Nat} {D:DataW Value} (h:w.ownsMap P kt R b n D):w.ownsMap P kt R b (Maps.size D) D:=by
 obtain⟨es,clock,hb,F,hs,rfl⟩:=h;exact⟨es,clock,hb,F,by simp[Maps.size,length_sorted],rfl⟩
theorem SM.lt (h:SM P kt w b ks f):b<w.heap.size:=by
 obtain⟨D,h1,_⟩:=h;exact h1.lt
theorem SM.keep (h:SM P kt w b ks f) (hb:w'.heap[b]?=w.heap[b]?):SM P kt w' b ks f:=by
 obtain⟨D,⟨es,clock,he,h1⟩,h2⟩:=h;exact⟨D,⟨es,clock,hb.trans he,h1⟩,h2⟩
theorem SM.same (h:SM P kt w b ks f) {g:Nat->Value} (hg:∀i∈ks,f i=g i):SM P kt w b ks g:=by
 obtain⟨D,h1,h2,h3,h4,h5⟩:=h;exact⟨D,h1,h2,h3,h4,λi hi z=>by rw[h5 i hi z,hg i hi]⟩
theorem SM.made (P:Program) (kt:TypeId) (w:World) (f:Nat->Value):SM P kt (w.alloc (.map #[] 0)) w.heap.size [] f:=
 ⟨.map [],World.ownsMap_made w P kt Rh,⟨[],rfl,List.Pairwise.nil⟩,rfl,λ_=>rfl,λ_ h=>by cases h⟩
def atI (ks:List Nat) (f:Nat->Value) (z:Value) (k:Int):Value:=match ks.find? (λi:Nat=>decide ((i:Int)=k))with|some i=>f i|none=>z
variable {t e:TypeId} (ht:P.underlying t=some (.map kt e)) (hk:P.underlying kt=some (.int .i64))
include ht hk
theorem SM.look (h:SM P kt w b ks f) {z:Value} (hz:(zeroValue e).run P w= .ok z w) {k:Int} (hw:(Lit.int .i64 k).wf=true):
 (Instr.lookup t (.map (some b)) (.int .i64 k) false).run P w= .ok (atI ks f z k) w:=by
 obtain⟨D,h1,h2,h3,h4,h5⟩:=h;obtain⟨v,ps,h0,hv⟩:=h1.lookup (Maps.int_keyed hk) ht hz (zd:=.held z) (zp:=[]) rfl (Maps.keyOf_int_mk hk hw);rw[h0];unfold atI;change Rh v=some (D.atKey (il k) _,ps)at hv;cases hf:ks.find? (λi:Nat=>decide ((i:Int)=k))with
 |none=>
  have hn:Maps.has D (il k)=false:=by
   rw[h4 k,List.any_eq_false];intro i hi;have:=List.find?_eq_none.1 hf i hi
   simpa using this
  rw[Maps.atKey_of_not_has hn]at hv;simp only[Rh,Option.some.injEq,Prod.mk.injEq,DataW.held.injEq]at hv;rw[hv.1]
 |some i=>
  have hi:=List.mem_of_find?_eq_some hf;have h6:(i:Int)=k:=by simpa using List.find?_some hf
  subst h6;rw[h5 i hi]at hv;simp only[Rh,Option.some.injEq,Prod.mk.injEq,DataW.held.injEq]at hv;rw[hv.1]
omit hk in
theorem SM.len (h:SM P kt w b ks f) (ty:TypeId):(Builtin.len_ #[t] ty #[.map (some b)]).run P w= .ok (.int .i64 (ks.length:Nat)) w:=by
 obtain⟨D,h1,h2,h3,_⟩:=h;rw[h1.len ht ty,h3]
theorem SM.put (h:SM P kt w b ks f) (hn:ks.length<maxLen) {k:Nat} (hw:(Lit.int .i64 (k:Int)).wf=true) (h0:k∉ks) (v:Value):
 ∃w',(Instr.mapUpdate t (.map (some b)) (.int .i64 (k:Int)) v).run P w= .ok () w'/\SM P kt w' b (ks++[k]) (λi=>if i=k then v else f i)/\w.grownBy w' (some b)/\w'.heap.size=w.heap.size:=by
 obtain⟨D,h1,h2,h3,h4,h5⟩:=h;have K:=Maps.int_keyed hk;obtain⟨w',h6,r1,r2⟩:=h1.store K ht hn (Maps.keyOf_int_mk hk hw) (val:=v) (d:=.held v) (ps:=[]) rfl;have h7:Maps.has D (il (k:Int))=false:=by
  rw[h4,List.any_eq_false];intro i hi;have:i≠k:=λe=>h0 (e▸hi);simp;omega
 have hsz:Maps.size (D.put (il (k:Int)) (.held v))=ks.length+1:=by
  rw[Maps.size_put h2,h7];simp[h3]
 refine⟨w',h6,⟨D.put (il (k:Int)) (.held v),?_,r1.tidy K,by rw[hsz];simp,λx=>?_,λi hi z=>?_⟩,?_,?_⟩
 · have:=own_tight r1
   rw[show(Maps.size (D.put (.int .i64 (k:Int)) (.held v)))=(ks++[k]).length by rw[show(Lit.int .i64 (k:Int))=il k from rfl,hsz];simp]at this;exact this
 · by_cases e:x=(k:Int)
   · subst e
     rw[Maps.has_put_same h2.isMap (keyLit _)];simp
   · rw[Maps.has_put_other (il_ne e),h4 x,List.any_append]
     have:¬(k:Int)=x:=λh=>e h.symm;simp[this]
 · by_cases e:i=k
   · subst e
     rw[Maps.atKey_put_same h2.isMap (keyLit _)];simp
   · rw[Maps.atKey_put_other (il_ne (by omega))]
     show _=DataW.held (if i=k then v else f i);rw[if_neg e];rcases List.mem_append.1 hi with hi|hi
     · exact h5 i hi z
     · exact absurd (by simpa using hi) e
 · obtain⟨es,clock,es',clock',hb,rfl⟩:=r2
   exact⟨rfl,rfl,rfl,by simp[ChangeMaps.setBlock],λi hi hne=>ChangeMaps.heap_setBlock_other hb _ (λe=>hne (by rw[e]))⟩
 · obtain⟨es,clock,es',clock',hb,rfl⟩:=r2
   simp[ChangeMaps.setBlock]
omit hk in
theorem SM.clear (h:SM P kt w b ks f) (ty:TypeId):
 ∃w',(Builtin.clear_ #[t] ty #[.map (some b)]).run P w= .ok (.tuple #[]) w'/\SM P kt w' b [] f/\w.grownBy w' (some b)/\w'.heap.size=w.heap.size:=by
 obtain⟨D,⟨es,clock,hb,F,hs,hD⟩,h2,h3,h4,h5⟩:=h;refine⟨ChangeMaps.setBlock w b (.map #[] clock),?_,⟨.map [],⟨#[],clock,ChangeMaps.heap_setBlock_same hb _,⟨by simp,MapKept.stamped_empty clock,by simp⟩,Nat.le_refl _,rfl⟩,⟨[],rfl,List.Pairwise.nil⟩,rfl,λ_=>rfl,λ_ h=>by cases h⟩,?_,by simp[ChangeMaps.setBlock]⟩
 · simp[Builtin.clear_,run_underlying ht,MapKept.run_getObj_map hb,MapKept.run_setObj_map _ hb,Result.andThen,ChangeMaps.setBlock]
 · exact⟨rfl,rfl,rfl,by simp[ChangeMaps.setBlock],λi hi hne=>ChangeMaps.heap_setBlock_other hb _ (λe=>hne (by rw[e]))⟩
end
end Go.Own.Im
end

section
namespace Go.Own.Cx
open Go Go.RowKit Go.Own Go.Own.Im
def hdrC (h:Hd.HdrV):Array Value:=#[.string h.name,.string h.value,.bool h.never]
def hsz (h:Hd.HdrV):Nat:=h.name.size+h.value.size+32
def hszs (l:List Hd.HdrV):Nat:=(l.map hsz).sum
structure Fr (w:World) (ow:Nat->Tg) (w':World) (ow':Nat->Tg):Prop where
 os:w'.os=w.os
 tape:w'.tape=w.tape
 output:w'.output=w.output
 size:w.heap.size<=w'.heap.size
 keep:∀g,g<w.heap.size->ow g= .no->w'.heap[g]?=w.heap[g]?
 no:∀g,g<w.heap.size->ow g= .no->ow' g= .no
section
variable {w w1 w2:World} {ow ow1 ow2:Nat->Tg}
theorem Fr.refl (w:World) (ow:Nat->Tg):Fr w ow w ow:=⟨rfl,rfl,rfl,Nat.le_refl _,λ_ _ _=>rfl,λ_ _ h=>h⟩
theorem Fr.trans (h:Fr w ow w1 ow1) (k:Fr w1 ow1 w2 ow2):Fr w ow w2 ow2:=
 ⟨k.os.trans h.os,k.tape.trans h.tape,k.output.trans h.output,Nat.le_trans h.size k.size,
   λg hg ho=>(k.keep g (Nat.lt_of_lt_of_le hg h.size) (h.no g hg ho)).trans (h.keep g hg ho),λg hg ho=>k.no g (Nat.lt_of_lt_of_le hg h.size) (h.no g hg ho)⟩
theorem Fr.below (h:Below w.heap.size w w1) (ow:Nat->Tg):Fr w ow w1 ow:=⟨h.os,h.tape,h.output,h.size,λg hg _=>h.block g hg,λ_ _ h=>h⟩
theorem Fr.grown {row:Option Nat} (h:w.grownBy w1 row) (hr:∀g,row=some g->ow g≠ .no):Fr w ow w1 ow:=
 ⟨h.os,h.tape,h.output,h.size,λg hg ho=>h.block g hg (λe=>hr g e.symm ho),λ_ _ h=>h⟩
theorem Fr.drew (h:Fr w ow w1 ow1):Fr w ow w1.drew ow1:=⟨h.os,h.tape,h.output,h.size,h.keep,h.no⟩
theorem Fr.blk {g:Nat} {t:TypeId} {cs:Array Value} (h:Fr w ow w1 ow1) (hb:Blk w g t cs) (ho:ow g= .no):Blk w1 g t cs:=(h.keep g hb.lt ho).trans hb
theorem Fr.rd {B n:Nat} {A:Option Addr} {l:List UInt8} (h:Fr w ow w1 ow1) (hr:Rd w B A n l) (hB:B<=w.heap.size) (ho:0<n->∀ad,A=some ad->ow ad.block= .no):Rd w1 B A n l:=
 ⟨hr.1,λhn=>by
   obtain⟨ad,e,hb,hc⟩:=hr.2 hn;refine⟨ad,e,hb,λj hj=>?_⟩;exact(World.cell?_of_block (a:=ad.add j) (by rw[add_block];exact h.keep ad.block (by omega) (ho hn ad e))).trans (hc j hj)⟩
end
theorem _root_.Go.Own.Oz.turn {w w':World} {own own':Nat->Prop} {v:Value} {l:List UInt8} (h:Oz w own v l) (hk:∀g,g<w.heap.size->own g->w'.heap[g]?=w.heap[g]?/\own' g) (hs:w.heap.size<=w'.heap.size):Oz w' own' v l:=by
 obtain⟨A,c,rfl,h1,h2,h3⟩:=h;refine⟨A,c,rfl,h1,h2,λhc=>?_⟩;obtain⟨g,off,e,ho,h0,h4,h5⟩:=h3 hc;have hh:=(hk g h0 ho).1;have e1:∀j,w'.cell? ⟨g,j,none⟩=w.cell? ⟨g,j,none⟩:=λj=>World.cell?_of_block (a:=⟨g,j,none⟩) hh;have e2:∀j,w'.frozen? ⟨g,j,none⟩=w.frozen? ⟨g,j,none⟩:=λj=>World.frozen?_of_block (a:=⟨g,j,none⟩) hh;exact⟨g,off,e,(hk g h0 ho).2,Nat.lt_of_lt_of_le h0 hs,λj hl hj=>by rw[e1,e2];exact h4 j hl hj,λj hj=>by rw[e1];exact h5 j hj⟩
def upd (ow:Nat->Tg) (g:Nat) (t:Tg):Nat->Tg:=λj=>if j=g then t else ow j
theorem upd_same (ow:Nat->Tg) (g:Nat) (t:Tg):upd ow g t g=t:=by simp[upd]
theorem upd_other (ow:Nat->Tg) {g j:Nat} (t:Tg) (h:j≠g):upd ow g t j=ow j:=by simp[upd,h]
end Go.Own.Cx
namespace Go.Proofs.YtkpppjhbmnfmkaaGreatDoor
open Go.RowKit Go.Own Go.Own.Im Go.Own.Cx
def TabS (w:World) (own:Nat->Prop) (g:Nat) (E:List Hd.HdrV) (most:Nat):Prop:=
 ∃(r old:Nat) (cs:Array Value),Blk w g 179 #[.slice (some ⟨r,0,none⟩) 128 128,.int .i64 (old:Nat),.int .i64 (E.length:Nat),.int .i64 (hszs E:Nat),.int .i64 (most:Nat)]/\Blk w r 63 cs/\own g/\own r/\cs.size=384/\old<128/\hszs E<=most/\most<=4096/\
  (∀k h,E[k]?=some h->cs[(old+k) % 128*3]?=some (.string h.name)/\cs[(old+k) % 128*3+1]?=some (.string h.value)/\cs[(old+k) % 128*3+2]?=some (.bool h.never))/\
  ∀j,j<128->∃h:Hd.HdrV,cs[j*3]?=some (.string h.name)/\cs[j*3+1]?=some (.string h.value)/\cs[j*3+2]?=some (.bool h.never)
def EncS (w:World) (own:Nat->Prop) (e:Nat) (H:HpM):Prop:=∃tb:Nat,Blk w e 135 #[.pointer (some ⟨tb,0,none⟩),.int .i64 (H.least:Nat),.bool H.asked]/\own e/\H.least<=4096/\TabS w own tb H.et.E H.et.most
def DecS (w:World) (own:Nat->Prop) (d:Nat) (H:HpM):Prop:=∃tb:Nat,Blk w d 137 #[.pointer (some ⟨tb,0,none⟩),.int .i64 4096,.bool H.dgone]/\own d/\TabS w own tb H.dt.E H.dt.most
structure SN (w:World) (ow:Nat->Tg) (co:Nat) (l:SLay) (s:Sv):Prop where
 blk:Blk w l.sb 122 (stC s l)
 tb:ow l.sb= .st s.id 0
 inw:Blk w l.ib 177 #[.int .i64 s.inw]
 ti:ow l.ib= .st s.id 1
 outw:Blk w l.ob 177 #[.int .i64 s.outw]
 tu:ow l.ob= .st s.id 2
 pair:Blk w l.pb 206 #[.slice (some ⟨l.rb,0,none⟩) 2 2]
 tp:ow l.pb= .st s.id 3
 row:Blk w l.rb 75 #[.pointer (some ⟨co,0,none⟩),.pointer (some ⟨l.ob,0,none⟩)]
 tr:ow l.rb= .st s.id 4
 waits:Oz w (λg=>ow g= .st s.id 5) l.waits s.waits
structure EvOk (w:World) (ow:Nat->Tg) (e:EvV):Prop where
 lst:e.l.length<=e.lc/\Cm.RS hdrC 3 w w.heap.size e.la e.l.length e.l/\(0<e.l.length->∀ad,e.la=some ad->ow ad.block= .evd)
 byt:e.by_.length<=e.bc/\Rd w w.heap.size e.ba e.by_.length e.by_/\(0<e.by_.length->∀ad,e.ba=some ad->ow ad.block= .evd)
structure EvS (w:World) (ow:Nat->Tg) (v:Value) (l:List EvV):Prop where
 row:Cm.Ew evC 43 7 w 0 v l
 own:∀g,v.ownBlock=some g->ow g= .ev
 each:∀e∈l,EvOk w ow e
def LsS (w:World) (ow:Nat->Tg) (v:Value):Option (Nat×Bool×List UInt8)->Prop
 |none=>v= .pointer none
 |some p=>∃g bv,v= .pointer (some ⟨g,0,none⟩)/\ow g= .lst/\Blk w g 195 #[.int .i64 (p.1:Nat),.bool p.2.1,bv]/\Oz w (λj=>ow j= .blk) bv p.2.2
def sptr (L:Lay) (i:Nat):Value:=.pointer (some ⟨(L.s i).sb,0,none⟩)
structure CP (w:World) (ow:Nat->Tg) (fed out:List UInt8) (evs:List EvV) (inw outw:Int) (strs:List Sv) (list:Option (Nat×Bool×List UInt8)) (H:HpM) (L:Lay):Prop where
 fed:Oz w (λg=>ow g= .fed) L.fed fed
 out:Oz w (λg=>ow g= .out) L.out out
 ev:EvS w ow L.ev evs
 inw:Blk w L.ib 177 #[.int .i64 inw]
 ti:ow L.ib= .inw
 outw:Blk w L.ob 177 #[.int .i64 outw]
 tu:ow L.ob= .outw
 map:SM Tryz.prog 3 w L.mb (strs.map (·.id)) (sptr L)
 tm:ow L.mb= .map
 strs:∀s∈strs,SN w ow L.ob (L.s s.id) s
 lst:LsS w ow L.list list
 enc:EncS w (λg=>ow g= .enc) L.enc H
 dec:DecS w (λg=>ow g= .dec) L.dec H
structure CN (w:World) (ow:Nat->Tg) (b:Nat) (M:Cv) (L:Lay):Prop where
 blk:Blk w b 80 (cnC M L)
 tb:ow b= .cn
 p:CP w ow M.fed M.out M.evs M.inw M.outw M.strs M.list M.hp L
 new:∀g,w.heap.size<=g->ow g= .no
section
variable {w w':World} {ow ow':Nat->Tg}
theorem TabS.keep {own own':Nat->Prop} {g:Nat} {E:List Hd.HdrV} {m:Nat} (h:TabS w own g E m) (hk:∀g,own g->g<w.heap.size->w'.heap[g]?=w.heap[g]?) (ho:∀g,own g->g<w.heap.size->own' g):TabS w' own' g E m:=by
 obtain⟨r,old,cs,h1,h2,h3,h4,h5⟩:=h;exact⟨r,old,cs,(hk g h3 h1.lt).trans h1,(hk r h4 h2.lt).trans h2,ho g h3 h1.lt,ho r h4 h2.lt,h5⟩
theorem EncS.keep {own own':Nat->Prop} {g:Nat} {H:HpM} (h:EncS w own g H) (hk:∀g,own g->g<w.heap.size->w'.heap[g]?=w.heap[g]?) (ho:∀g,own g->g<w.heap.size->own' g):EncS w' own' g H:=by
 obtain⟨tb,h1,h2,h3,h4⟩:=h;exact⟨tb,(hk g h2 h1.lt).trans h1,ho g h2 h1.lt,h3,h4.keep hk ho⟩
theorem DecS.keep {own own':Nat->Prop} {g:Nat} {H:HpM} (h:DecS w own g H) (hk:∀g,own g->g<w.heap.size->w'.heap[g]?=w.heap[g]?) (ho:∀g,own g->g<w.heap.size->own' g):DecS w' own' g H:=by
 obtain⟨tb,h1,h2,h4⟩:=h;exact⟨tb,(hk g h2 h1.lt).trans h1,ho g h2 h1.lt,h4.keep hk ho⟩
theorem SN.keep {co:Nat} {l:SLay} {s:Sv} (h:SN w ow co l s) (hs:w.heap.size<=w'.heap.size) (hk:∀g k,ow g= .st s.id k->g<w.heap.size->w'.heap[g]?=w.heap[g]?/\ow' g= .st s.id k):SN w' ow' co l s:=
 ⟨(hk _ _ h.tb h.blk.lt).1.trans h.blk,(hk _ _ h.tb h.blk.lt).2,(hk _ _ h.ti h.inw.lt).1.trans h.inw,(hk _ _ h.ti h.inw.lt).2,(hk _ _ h.tu h.outw.lt).1.trans h.outw,(hk _ _ h.tu h.outw.lt).2,
   (hk _ _ h.tp h.pair.lt).1.trans h.pair,(hk _ _ h.tp h.pair.lt).2,(hk _ _ h.tr h.row.lt).1.trans h.row,(hk _ _ h.tr h.row.lt).2,
   h.waits.turn (λg hg ho=>hk g 5 ho hg) hs⟩
theorem EvOk.keep {e:EvV} (h:EvOk w ow e) (hs:w.heap.size<=w'.heap.size) (hk:∀g,ow g= .evd->g<w.heap.size->w'.heap[g]?=w.heap[g]?/\ow' g= .evd):EvOk w' ow' e:=by
 obtain⟨⟨h1,h2,h3⟩,⟨h8,h5,h7⟩⟩:=h;refine⟨⟨h1,?_,λhl ad ha=>?_⟩,⟨h8,?_,λhl ad ha=>?_⟩⟩
 · rcases Nat.eq_zero_or_pos e.l.length with h0|h0
   · exact⟨rfl,λj x hx=>by have:=(List.getElem?_eq_some_iff.1 hx).1;omega⟩
   · exact(h2.keep hs λad ha _ h6=>(hk _ (h3 h0 ad ha) h6).1).more hs
 · obtain⟨ad',h4,_,h6,_⟩:=h2.2 0 _ (List.getElem?_eq_getElem hl)
   rw[ha]at h4;injection h4 with h4;subst h4
   exact(hk _ (h3 hl ad ha) h6).2
 · refine⟨h5.1,λhn=>?_⟩
   obtain⟨ad,ha,hb,hc⟩:=h5.2 hn;exact⟨ad,ha,Nat.lt_of_lt_of_le hb hs,λj hj=>(World.cell?_of_block (a:=ad.add j) (by rw[add_block];exact(hk _ (h7 hn ad ha) hb).1)).trans (hc j hj)⟩
 · obtain⟨ad',h4,hb,_⟩:=h5.2 hl
   rw[ha]at h4;injection h4 with h4;subst h4
   exact(hk _ (h7 hl ad ha) hb).2
theorem EvS.keep {v:Value} {l:List EvV} (h:EvS w ow v l) (hs:w.heap.size<=w'.heap.size) (hk:∀g,ow g= .ev->g<w.heap.size->w'.heap[g]?=w.heap[g]?/\ow' g= .ev) (h1:∀g,ow g= .evd->g<w.heap.size->w'.heap[g]?=w.heap[g]?/\ow' g= .evd):EvS w' ow' v l:=by
 refine⟨⟨h.row.1,?_⟩,λg e=>?_,λe he=>(h.each e he).keep hs h1⟩
 · rcases h.row.2 with h0|⟨g,cap,cur,rfl,hb,hg,r⟩
   · exact .inl h0
   · exact .inr ⟨g,cap,cur,rfl,hb,(hk g (h.own g rfl) (Array.getElem?_eq_some_iff.1 hg).1).1.trans hg,r⟩
 · exact(hk g (h.own g e) (h.row.lt g e).2).2
theorem LsS.keep {v:Value}:∀{o:Option (Nat×Bool×List UInt8)},LsS w ow v o->w.heap.size<=w'.heap.size->(∀g,(ow g= .lst\/ow g= .blk)->g<w.heap.size->w'.heap[g]?=w.heap[g]?/\ow' g=ow g)->LsS w' ow' v o
 |none,h,_,_=>h
 |some _,⟨g,bv,e,h1,h2,h3⟩,hs,hk=>⟨g,bv,e,(hk g (.inl h1) h2.lt).2.trans h1,(hk g (.inl h1) h2.lt).1.trans h2,h3.turn (λj hj ho=>⟨(hk j (.inr ho) hj).1,(hk j (.inr ho) hj).2.trans ho⟩) hs⟩
theorem CP.keep {fed out:List UInt8} {evs:List EvV} {inw outw:Int} {strs:List Sv} {list:Option (Nat×Bool×List UInt8)} {H:HpM} {L:Lay} (h:CP w ow fed out evs inw outw strs list H L) (hs:w.heap.size<=w'.heap.size)
 (hk:∀g,ow g≠ .no->ow g≠ .cn->g<w.heap.size->w'.heap[g]?=w.heap[g]?/\ow' g=ow g):CP w' ow' fed out evs inw outw strs list H L:=by
 have k:∀(t:Tg),t≠ .no->t≠ .cn->∀g,ow g=t->g<w.heap.size->w'.heap[g]?=w.heap[g]?/\ow' g=t:=λt h1 h2 g hg h0=>by
  have:=hk g (by rw[hg];exact h1) (by rw[hg];exact h2) h0;exact⟨this.1,this.2.trans hg⟩
 refine⟨h.fed.turn (λg a b=>k .fed (by decide) (by decide) g b a) hs,h.out.turn (λg a b=>k .out (by decide) (by decide) g b a) hs,h.ev.keep hs (k .ev (by decide) (by decide)) (k .evd (by decide) (by decide)),
  (k .inw (by decide) (by decide) _ h.ti h.inw.lt).1.trans h.inw,(k .inw (by decide) (by decide) _ h.ti h.inw.lt).2,(k .outw (by decide) (by decide) _ h.tu h.outw.lt).1.trans h.outw,(k .outw (by decide) (by decide) _ h.tu h.outw.lt).2,
  h.map.keep (k .map (by decide) (by decide) _ h.tm h.map.lt).1,(k .map (by decide) (by decide) _ h.tm h.map.lt).2,λs hm=>(h.strs s hm).keep hs λg j hg h0=>k (.st s.id j) (by simp) (by simp) g hg h0,
  h.lst.keep hs (λg hg h0=>?_),h.enc.keep (λg a b=>(k .enc (by decide) (by decide) g a b).1) (λg a b=>(k .enc (by decide) (by decide) g a b).2),h.dec.keep (λg a b=>(k .dec (by decide) (by decide) g a b).1) (λg a b=>(k .dec (by decide) (by decide) g a b).2)⟩
 rcases hg with hg|hg
 · exact⟨(k .lst (by decide) (by decide) g hg h0).1,(k .lst (by decide) (by decide) g hg h0).2.trans hg.symm⟩
 · exact⟨(k .blk (by decide) (by decide) g hg h0).1,(k .blk (by decide) (by decide) g hg h0).2.trans hg.symm⟩
theorem CN.keep {b:Nat} {M:Cv} {L:Lay} (h:CN w ow b M L) (hs:w.heap.size<=w'.heap.size) (hk:∀g,ow g≠ .no->g<w.heap.size->w'.heap[g]?=w.heap[g]?):CN w' ow b M L:=
 ⟨(hk b (by rw[h.tb];decide) h.blk.lt).trans h.blk,h.tb,h.p.keep hs λg a _ c=>⟨hk g a c,rfl⟩,λg hg=>h.new g (Nat.le_trans hs hg)⟩
theorem CN.below {b:Nat} {M:Cv} {L:Lay} (h:CN w ow b M L) (hb:Below w.heap.size w w'):CN w' ow b M L:=h.keep hb.size λg _ hg=>hb.block g hg
theorem CN.alloc {b:Nat} {M:Cv} {L:Lay} (h:CN w ow b M L) (o:Obj):CN (w.alloc o) ow b M L:=h.below ((Below.refl _ _).alloc (Nat.le_refl _) o)
theorem CN.drew {b:Nat} {M:Cv} {L:Lay} (h:CN w ow b M L):CN w.drew ow b M L:=h.keep (Nat.le_refl _) λ_ _ _=>rfl
theorem CN.cell {b:Nat} {M M':Cv} {L L':Lay} (h:CN w ow b M L) (i:Nat) (v:Value) (hc:(cnC M L).setIfInBounds i v=cnC M' L') (hp:CP w ow M'.fed M'.out M'.evs M'.inw M'.outw M'.strs M'.list M'.hp L'):
 CN (w.setCell ⟨b,i,none⟩ v) ow b M' L'/\Fr w ow (w.setCell ⟨b,i,none⟩ v) ow:=by
 have hsz:(w.setCell ⟨b,i,none⟩ v).heap.size=w.heap.size:=by simp[World.setCell]
 refine⟨⟨hc▸h.blk.put i v,h.tb,hp.keep (by omega) λg _ hn _=>⟨Below.heap_setCell w _ _ g (λe=>hn (by rw[e];exact h.tb)),rfl⟩,λg hg=>h.new g (by omega)⟩,?_⟩;exact Fr.grown (grown_setCell (World.grownBy.refl w (some b)) i v) λg e=>by injection e with e;subst e;rw[h.tb];decide
end
end Go.Proofs.YtkpppjhbmnfmkaaGreatDoor
end

section
namespace Go.Proofs.YtkpppjhbmnfmkaaGreatDoor
open Go.RowKit Go.Own Go.Own.Im Go.Own.Cx
structure Kp (T:Tg->Prop) (w:World) (ow:Nat->Tg) (w':World) (ow':Nat->Tg):Prop where
 size:w.heap.size<=w'.heap.size
 keep:∀g,ow g≠ .no->¬T (ow g)->g<w.heap.size->w'.heap[g]?=w.heap[g]?/\ow' g=ow g
section
variable {T:Tg->Prop} {w w':World} {ow ow':Nat->Tg} {fed out:List UInt8} {evs:List EvV} {inw outw:Int} {strs:List Sv} {list:Option (Nat×Bool×List UInt8)} {H:HpM} {L:Lay}
theorem Kp.at_ (k:Kp T w ow w' ow') (t:Tg) (hn:t≠ .no) (ht:¬T t):∀g,ow g=t->g<w.heap.size->w'.heap[g]?=w.heap[g]?/\ow' g=t:=λg hg h0=>by
 have:=k.keep g (by rw[hg];exact hn) (by rw[hg];exact ht) h0;exact⟨this.1,this.2.trans hg⟩
theorem CP.fedK (h:CP w ow fed out evs inw outw strs list H L) (k:Kp T w ow w' ow') (ht:¬T .fed):Oz w' (λg=>ow' g= .fed) L.fed fed:=h.fed.turn (λg a b=>k.at_ .fed (by decide) ht g b a) k.size
theorem CP.outK (h:CP w ow fed out evs inw outw strs list H L) (k:Kp T w ow w' ow') (ht:¬T .out):Oz w' (λg=>ow' g= .out) L.out out:=h.out.turn (λg a b=>k.at_ .out (by decide) ht g b a) k.size
theorem CP.evK (h:CP w ow fed out evs inw outw strs list H L) (k:Kp T w ow w' ow') (ht:¬T .ev) (ht2:¬T .evd):EvS w' ow' L.ev evs:=h.ev.keep k.size (k.at_ .ev (by decide) ht) (k.at_ .evd (by decide) ht2)
theorem CP.inwK (h:CP w ow fed out evs inw outw strs list H L) (k:Kp T w ow w' ow') (ht:¬T .inw):Blk w' L.ib 177 #[.int .i64 inw]/\ow' L.ib= .inw:=⟨(k.at_ .inw (by decide) ht _ h.ti h.inw.lt).1.trans h.inw,(k.at_ .inw (by decide) ht _ h.ti h.inw.lt).2⟩
theorem CP.outwK (h:CP w ow fed out evs inw outw strs list H L) (k:Kp T w ow w' ow') (ht:¬T .outw):Blk w' L.ob 177 #[.int .i64 outw]/\ow' L.ob= .outw:=⟨(k.at_ .outw (by decide) ht _ h.tu h.outw.lt).1.trans h.outw,(k.at_ .outw (by decide) ht _ h.tu h.outw.lt).2⟩
theorem CP.mapK (h:CP w ow fed out evs inw outw strs list H L) (k:Kp T w ow w' ow') (ht:¬T .map):SM Tryz.prog 3 w' L.mb (strs.map (·.id)) (sptr L)/\ow' L.mb= .map:=⟨h.map.keep (k.at_ .map (by decide) ht _ h.tm h.map.lt).1,(k.at_ .map (by decide) ht _ h.tm h.map.lt).2⟩
theorem CP.strK (h:CP w ow fed out evs inw outw strs list H L) (k:Kp T w ow w' ow') (s:Sv) (hs:s∈strs) (ht:∀j,¬T (.st s.id j)):SN w' ow' L.ob (L.s s.id) s:=(h.strs s hs).keep k.size λg j hg h0=>k.at_ (.st s.id j) (by simp) (ht j) g hg h0
theorem CP.lstK (h:CP w ow fed out evs inw outw strs list H L) (k:Kp T w ow w' ow') (h1:¬T .lst) (h2:¬T .blk):LsS w' ow' L.list list:=h.lst.keep k.size λg hg h0=>by
 rcases hg with hg|hg
 · exact⟨(k.at_ .lst (by decide) h1 g hg h0).1,(k.at_ .lst (by decide) h1 g hg h0).2.trans hg.symm⟩
 · exact⟨(k.at_ .blk (by decide) h2 g hg h0).1,(k.at_ .blk (by decide) h2 g hg h0).2.trans hg.symm⟩
theorem CP.encK (h:CP w ow fed out evs inw outw strs list H L) (k:Kp T w ow w' ow') (ht:¬T .enc):EncS w' (λg=>ow' g= .enc) L.enc H:=h.enc.keep (λg a b=>(k.at_ .enc (by decide) ht g a b).1) λg a b=>(k.at_ .enc (by decide) ht g a b).2
theorem CP.decK (h:CP w ow fed out evs inw outw strs list H L) (k:Kp T w ow w' ow') (ht:¬T .dec):DecS w' (λg=>ow' g= .dec) L.dec H:=h.dec.keep (λg a b=>(k.at_ .dec (by decide) ht g a b).1) λg a b=>(k.at_ .dec (by decide) ht g a b).2
theorem CN.blkK {b:Nat} {M:Cv} (h:CN w ow b M L) (k:Kp T w ow w' ow') (ht:¬T .cn):Blk w' b 80 (cnC M L)/\ow' b= .cn:=⟨(k.at_ .cn (by decide) ht _ h.tb h.blk.lt).1.trans h.blk,(k.at_ .cn (by decide) ht _ h.tb h.blk.lt).2⟩
theorem Kp.row {b:Nat} {M:Cv} (h:CN w ow b M L) {row:Option Nat} {t:Tg} (hg:w.grownBy w' row) (hr:∀g,row=some g->ow g=t):Kp (λx=>x=t) w ow w' ow:=
 ⟨hg.size,λg _ ht h0=>⟨hg.block g h0 (λe=>ht (hr g e.symm)),rfl⟩⟩
theorem Kp.rowNew {b:Nat} {M:Cv} (h:CN w ow b M L) {row:Option Nat} {t:Tg} (hg:w.grownBy w' row) (hr:∀g,row=some g->ow g=t) (j:Nat) (hj:w.heap.size<=j):Kp (λx=>x=t) w ow w' (upd ow j t):=
 ⟨hg.size,λg _ ht h0=>⟨hg.block g h0 (λe=>ht (hr g e.symm)),upd_other _ _ (by omega)⟩⟩
end
end Go.Proofs.YtkpppjhbmnfmkaaGreatDoor
end

section
namespace Go.Proofs.YtkpppjhbmnfmkaaGreatDoor
open Go.RowKit Go.Own Go.Own.Im Go.Own.Cx
section
variable {w wA w8:World} {ow:Nat->Tg} {b:Nat} {M:Cv} {L:Lay} {row:Option Nat} {t:Tg}
theorem CN.apped (h:CN wA ow b M L) (hg:wA.grownBy w8 row) (hr:∀g,row=some g->ow g=t/\g<wA.heap.size) (h4:t≠ .no):∃ow',Kp (λx=>x=t) wA ow w8 ow'/\Fr wA ow w8 ow'/\(∀g,w8.heap.size<=g->ow' g= .no)/\∀g,g<w8.heap.size->(ow g=t\/(row=none/\g=wA.heap.size))->ow' g=t:=by
 have hs:=hg.size;have h0:Fr wA ow w8 ow:=Fr.grown hg λg e=>by rw[(hr g e).1];exact h4
 by_cases hc:row=none/\wA.heap.size<w8.heap.size
 · refine⟨upd ow wA.heap.size t,Kp.rowNew h hg (λg e=>(hr g e).1) _ (Nat.le_refl _),⟨h0.os,h0.tape,h0.output,h0.size,h0.keep,λg h3 ho=>by rw[upd_other _ _ (by omega)];exact ho⟩,λg h5=>by rw[upd_other _ _ (by omega)];exact h.new g (by omega),λg h3 ho=>?_⟩
   by_cases e:g=wA.heap.size
   · rw[e];exact upd_same _ _ _
   · rw[upd_other _ _ e]
     rcases ho with ho|⟨_,ho⟩
     · exact ho
     · exact absurd ho e
 · refine⟨ow,Kp.row h hg (λg e=>(hr g e).1),h0,λg h5=>h.new g (by omega),λg h3 ho=>?_⟩
   rcases ho with ho|⟨h1,h2⟩
   · exact ho
   · exact absurd ⟨h1,by omega⟩ hc
theorem CN.feeds (h:CN wA ow b M L) {v:Value} {l:List UInt8} (hO:Oz w8 (λg=>ow g= .fed\/(row=none/\g=wA.heap.size)) v l) (hg:wA.grownBy w8 row) (hr:∀g,row=some g->ow g= .fed/\g<wA.heap.size):
 ∃ow' L',CN (w8.setCell ⟨b,3,none⟩ v) ow' b {M with fed:=l} L'/\Fr wA ow (w8.setCell ⟨b,3,none⟩ v) ow'/\L'.s=L.s:=by
 obtain⟨ow',k,h3,h1,h2⟩:=h.apped hg hr (by decide);have h0:=h.blkK k (by decide);have hz:Oz w8 (λg=>ow' g= .fed) v l:=hO.owned h2;have h4:CP w8 ow' l M.out M.evs M.inw M.outw M.strs M.list M.hp {L with fed:=v}:=
  ⟨hz,h.p.outK k (by decide),h.p.evK k (by decide) (by decide),(h.p.inwK k (by decide)).1,(h.p.inwK k (by decide)).2,(h.p.outwK k (by decide)).1,(h.p.outwK k (by decide)).2,(h.p.mapK k (by decide)).1,(h.p.mapK k (by decide)).2,
    λs hs=>h.p.strK k s hs (by intro j;simp),h.p.lstK k (by decide) (by decide),h.p.encK k (by decide),h.p.decK k (by decide)⟩
 have hsz:(w8.setCell ⟨b,3,none⟩ v).heap.size=w8.heap.size:=by simp[World.setCell]
 refine⟨ow',{L with fed:=v},⟨h0.1.put 3 _,h0.2,h4.keep (by omega) λg _ hn _=>⟨Below.heap_setCell w8 _ _ g (λe=>hn (by rw[e];exact h0.2)),rfl⟩,λg h5=>h1 g (by omega)⟩,h3.trans ?_,rfl⟩;exact Fr.grown (grown_setCell (World.grownBy.refl w8 (some b)) 3 _) λg e=>by injection e with e;subst e;rw[h0.2];decide
theorem CN.blocks (h:CN wA ow b M L) {gp id:Nat} {fin:Bool} {l0 l:List UInt8} {v v0:Value} (hM:M.list=some (id,fin,l0)) (hL:L.list= .pointer (some ⟨gp,0,none⟩)) (h5:ow gp= .lst) (hb:Blk wA gp 195 #[.int .i64 (id:Nat),.bool fin,v0])
 (hO:Oz w8 (λg=>ow g= .blk\/(row=none/\g=wA.heap.size)) v l) (hg:wA.grownBy w8 row) (hr:∀g,row=some g->ow g= .blk/\g<wA.heap.size):
 ∃ow',CN (w8.setCell ⟨gp,2,none⟩ v) ow' b {M with list:=some (id,fin,l)} L/\Fr wA ow (w8.setCell ⟨gp,2,none⟩ v) ow'/\ow' gp= .lst/\Blk (w8.setCell ⟨gp,2,none⟩ v) gp 195 #[.int .i64 (id:Nat),.bool fin,v]:=by
 obtain⟨ow',k,h6,h3,h4⟩:=h.apped hg hr (by decide);have hc:=h.blkK k (by decide);have hz:Oz w8 (λg=>ow' g= .blk) v l:=hO.owned h4;have hp:=k.at_ .lst (by decide) (by decide) gp h5 hb.lt;have h7:Blk w8 gp 195 #[.int .i64 (id:Nat),.bool fin,v0]:=hp.1.trans hb;have hsz:(w8.setCell ⟨gp,2,none⟩ v).heap.size=w8.heap.size:=by simp[World.setCell]
 have k2:Kp (λx=>x= .blk\/x= .lst) wA ow (w8.setCell ⟨gp,2,none⟩ v) ow':=⟨by have:=k.size;omega,λg hn ht h8=>by
  have h1:=k.keep g hn (λe=>ht (.inl e)) h8;exact⟨(Below.heap_setCell w8 _ _ g (λe=>ht (.inr (by rw[e];exact h5)))).trans h1.1,h1.2⟩⟩
 have h2:=h.blkK k2 (by decide);have h0:=h7.put 2 v;simp only[List.setIfInBounds_toArray,List.set_cons_zero,List.set_cons_succ]at h0;have h9:Oz (w8.setCell ⟨gp,2,none⟩ v) (λg=>ow' g= .blk) v l:=hz.grown (grown_setCell (World.grownBy.refl w8 (some gp)) 2 v) λg e he=>by
  injection e with e
  subst e;rw[hp.2]at he;cases he
 refine⟨ow',⟨h2.1,h2.2,⟨h.p.fedK k2 (by decide),h.p.outK k2 (by decide),h.p.evK k2 (by decide) (by decide),(h.p.inwK k2 (by decide)).1,(h.p.inwK k2 (by decide)).2,(h.p.outwK k2 (by decide)).1,(h.p.outwK k2 (by decide)).2,(h.p.mapK k2 (by decide)).1,(h.p.mapK k2 (by decide)).2,
  λs hs=>h.p.strK k2 s hs (by intro j;simp),⟨gp,v,hL,hp.2,h0,h9⟩,h.p.encK k2 (by decide),h.p.decK k2 (by decide)⟩,λg hd=>h3 g (by omega)⟩,h6.trans ?_,hp.2,h0⟩
 exact Fr.grown (grown_setCell (World.grownBy.refl w8 (some gp)) 2 _) λg e=>by injection e with e;subst e;rw[hp.2];decide
def offT (ow:Nat->Tg):Nat->Tg:=λj=>if ow j= .lst\/ow j= .blk then .no else ow j
theorem CN.unlists (h:CN w ow b M L):CN (w.setCell ⟨b,16,none⟩ (.pointer none)) (offT ow) b {M with list:=none} {L with list:=.pointer none}/\Fr w ow (w.setCell ⟨b,16,none⟩ (.pointer none)) (offT ow):=by
 have h0:∀j,ow j≠ .lst->ow j≠ .blk->offT ow j=ow j:=λj h1 h2=>by unfold offT;rw[if_neg];rintro(e|e);exact h1 e;exact h2 e
 have hsz:(w.setCell ⟨b,16,none⟩ (.pointer none)).heap.size=w.heap.size:=by simp[World.setCell]
 have k:Kp (λx=>x= .blk\/x= .lst) w ow w (offT ow):=⟨Nat.le_refl _,λg _ ht _=>⟨rfl,h0 g (λe=>ht (.inr e)) (λe=>ht (.inl e))⟩⟩;have h3:=h.blkK k (by decide);have h4:CP w (offT ow) M.fed M.out M.evs M.inw M.outw M.strs none M.hp {L with list:=.pointer none}:=
  ⟨h.p.fedK k (by decide),h.p.outK k (by decide),h.p.evK k (by decide) (by decide),(h.p.inwK k (by decide)).1,(h.p.inwK k (by decide)).2,(h.p.outwK k (by decide)).1,(h.p.outwK k (by decide)).2,(h.p.mapK k (by decide)).1,(h.p.mapK k (by decide)).2,
    λs hs=>h.p.strK k s hs (by intro j;simp),rfl,h.p.encK k (by decide),h.p.decK k (by decide)⟩
 refine⟨⟨h3.1.put 16 _,h3.2,h4.keep (by omega) λg _ hn _=>⟨Below.heap_setCell w _ _ g (λe=>hn (by rw[e];exact h3.2)),rfl⟩,λg h6=>?_⟩,⟨rfl,rfl,rfl,by omega,λg h5 ho=>Below.heap_setCell w _ _ g (λe=>by rw[e,h.tb]at ho;cases ho),λg h5 ho=>?_⟩⟩
 · rw[h0 g (by rw[h.new g (by omega)];decide) (by rw[h.new g (by omega)];decide)]
   exact h.new g (by omega)
 · rw[h0 g (by rw[ho];decide) (by rw[ho];decide)]
   exact ho
end
end Go.Proofs.YtkpppjhbmnfmkaaGreatDoor
end

section
set_option maxHeartbeats 1000000
set_option maxRecDepth 100000
namespace Go.Proofs.YtkpppjhbmnfmkaaGreatDoor
open Go.RowKit Go.Own Go.Own.Fr
theorem preface_any (w:World):Calls Tryz.prog 38 #[] w λe w'=>e= .returned (.slice (some ⟨w.heap.size,0,none⟩) 24 24)/\Rd w' (w.heap.size+1) (some ⟨w.heap.size,0,none⟩) 24 prefB/\Below w.heap.size w w':=by
 have h0:=λ(w:World) (C:Array Value) (n c:Nat)=>Lib.run_convert_bytes_const (P:=Tryz.prog) w 22 5 C n c Tryz.underlying22 Tryz.underlying5;go_enter Tryz.func38,Tryz.ntmps38;go_wp2;go_ret;exact⟨rfl,Rd.marks w _ prefB 5 _ rfl,(Below.refl _ _).alloc (Nat.le_refl _) _⟩
theorem prefaceR_any (w:World):Calls Tryz.prog 41 #[] w λe w'=>e= .returned (.slice (some ⟨w.heap.size,0,none⟩) 24 24)/\Rd w' (w.heap.size+1) (some ⟨w.heap.size,0,none⟩) 24 prefB/\Below w.heap.size w w':=by
 have h0:=λ(w:World) (C:Array Value) (n c:Nat)=>Lib.run_convert_bytes_const (P:=Tryz.prog) w 22 5 C n c Tryz.underlying22 Tryz.underlying5;go_enter Tryz.func41,Tryz.ntmps41;go_wp2;go_ret;exact⟨rfl,Rd.marks w _ prefB 5 _ rfl,(Below.refl _ _).alloc (Nat.le_refl _) _⟩
end Go.Proofs.YtkpppjhbmnfmkaaGreatDoor
end

section
namespace Go.Proofs.YtkpppjhbmnfmkaaGreatDoor
open Go.RowKit Go.Own
def ev (a:Addr):Value:=.iface 327 (.pointer (some a))
def ErrC (w:World) (g:Nat):Prop:=∃a,w.cell? ⟨g,0,none⟩=some (ev a)
structure HpE (w:World):Prop where
 room:20<=w.heap.size
 long:ErrC w 5
 end_:ErrC w 10
 idx:ErrC w 12
 tab:ErrC w 8
 list:ErrC w 6
 huff:ErrC w 16
 gone:ErrC w 3
 win:ErrC w 11
 max:∃m,w.cell? ⟨13,0,none⟩=some (.int .i64 m)
theorem HpE.keep {w w':World} (h:HpE w) (hs:w.heap.size<=w'.heap.size) (hk:∀g,g<20->w'.heap[g]?=w.heap[g]?):HpE w':=by
 have kc:∀g,g<20->w'.cell? ⟨g,0,none⟩=w.cell? ⟨g,0,none⟩:=λg hg=>World.cell?_of_block (a:=⟨g,0,none⟩) (hk g hg);have ke:∀g,g<20->ErrC w g->ErrC w' g:=λg hg ⟨a,ha⟩=>⟨a,(kc g hg).trans ha⟩;obtain⟨m,hm⟩:=h.max;exact⟨Nat.le_trans h.room hs,ke _ (by decide) h.long,ke _ (by decide) h.end_,ke _ (by decide) h.idx,ke _ (by decide) h.tab,ke _ (by decide) h.list,ke _ (by decide) h.huff,ke _ (by decide) h.gone,ke _ (by decide) h.win,⟨m,(kc _ (by decide)).trans hm⟩⟩
theorem HpE.below {w w':World} {B:Nat} (h:HpE w) (hb:Below B w w') (hB:20<=B):HpE w':=h.keep hb.size λg hg=>hb.block g (by omega)
end Go.Proofs.YtkpppjhbmnfmkaaGreatDoor
end

section
set_option maxHeartbeats 4000000
set_option maxRecDepth 100000
namespace Go.Proofs.YtkpppjhbmnfmkaaGreatDoor
open Lib (hid)
open Go.RowKit Go.Own Go.Own.Cx
def stat3:Nat->Option Hd.HdrV
 |3=>some ⟨⟨#[58,109,101,116,104,111,100]⟩,⟨#[80,79,83,84]⟩,false⟩
 |6=>some ⟨⟨#[58,115,99,104,101,109,101]⟩,⟨#[104,116,116,112]⟩,false⟩
 |4=>some ⟨⟨#[58,112,97,116,104]⟩,⟨#[47]⟩,false⟩
 |_=>none
theorem Blk3 {w:World} {g:Nat} {t:TypeId} {cs:Array Value} (h:Blk w g t cs) (hs:cs.size=3) (v0 v1 v2:Value):Blk (((w.setCell ⟨g,0,none⟩ v0).setCell ⟨g,1,none⟩ v1).setCell ⟨g,2,none⟩ v2) g t #[v0,v1,v2]:=by
 have e:(((cs.setIfInBounds 0 v0).setIfInBounds 1 v1).setIfInBounds 2 v2)= #[v0,v1,v2]:=by
  apply Array.ext
  · simp[hs]
  · intro i h1 h2
    simp at h2;have:i=0\/i=1\/i=2:=by omega
    rcases this with rfl|rfl|rfl<;>simp[Array.getElem_setIfInBounds,hs]
 exact e▸((h.put 0 v0).put 1 v1).put 2 v2
theorem below3 {B:Nat} {a w:World} {g:Nat} (h:Below B a w) (hg:B<=g) (v0 v1 v2:Value):Below B a (((w.setCell ⟨g,0,none⟩ v0).setCell ⟨g,1,none⟩ v1).setCell ⟨g,2,none⟩ v2):=
 ((h.setCell (p:=⟨g,0,none⟩) hg v0).setCell (p:=⟨g,1,none⟩) hg v1).setCell (p:=⟨g,2,none⟩) hg v2
theorem results_static (tmps:Array Value) (w:World) (g:Nat) (a b c v:Value) (ht:tmps[2]?=some (.pointer (some ⟨g,0,none⟩))) (h3:tmps[3]?=some v) (hb:Blk w g 63 #[a,b,c]):
 (results Tryz.f212 tmps).run Tryz.prog w= .ok (.tuple #[.agg #[a,b,c],v]) w:=by
 have c0:w.cell? ⟨g,0,none⟩=some a:=hb.cell 0;have c1:w.cell? ⟨g,1,none⟩=some b:=hb.cell 1;have c2:w.cell? ⟨g,2,none⟩=some c:=hb.cell 2;simp[results,Tryz.results212,go_sem,ht,h3,c0,c1,c2]
theorem results_tget (tmps:Array Value) (w:World) (g:Nat) (a b c v:Value) (ht:tmps[4]?=some (.pointer (some ⟨g,0,none⟩))) (h3:tmps[5]?=some v) (hb:Blk w g 63 #[a,b,c]):
 (results Tryz.f170 tmps).run Tryz.prog w= .ok (.tuple #[.agg #[a,b,c],v]) w:=by
 have c0:w.cell? ⟨g,0,none⟩=some a:=hb.cell 0;have c1:w.cell? ⟨g,1,none⟩=some b:=hb.cell 1;have c2:w.cell? ⟨g,2,none⟩=some c:=hb.cell 2;simp[results,Tryz.results170,go_sem,ht,h3,c0,c1,c2]
theorem stat3_at {i:Nat} {h:Hd.HdrV} (hi:stat3 i=some h):(i=3/\h=⟨⟨#[58,109,101,116,104,111,100]⟩,⟨#[80,79,83,84]⟩,false⟩)\/(i=6/\h=⟨⟨#[58,115,99,104,101,109,101]⟩,⟨#[104,116,116,112]⟩,false⟩)\/(i=4/\h=⟨⟨#[58,112,97,116,104]⟩,⟨#[47]⟩,false⟩):=by
 unfold stat3 at hi
 split at hi
 · exact .inl ⟨rfl,by simpa using hi.symm⟩
 · exact .inr (.inl ⟨rfl,by simpa using hi.symm⟩)
 · exact .inr (.inr ⟨rfl,by simpa using hi.symm⟩)
 · cases hi
def StatL (L:List ByteArray):Prop:=L.length=61/\L[2]?=some ⟨#[58,109,101,116,104,111,100,32,80,79,83,84]⟩/\L[5]?=some ⟨#[58,115,99,104,101,109,101,32,104,116,116,112]⟩/\L[3]?=some ⟨#[58,112,97,116,104,32,47]⟩
def lns:List UInt8->List (List UInt8)
 |[]=>[[]]
 |b::l=>if b=10 then[]::lns l else match lns l with
  |[]=>[[b]]
  |x::xs=>(b::x)::xs
theorem lns_ne:∀l,lns l≠[]
 |[]=>by simp[lns]
 |b::l=>by
  unfold lns
  split
  · simp
  · split<;>simp
theorem lns_none:∀{l:List UInt8},(10:UInt8)∉l->lns l=[l]
 |[],_=>rfl
 |b::l,h=>by
  rw[List.mem_cons,not_or]at h;rw[lns,if_neg (λe=>h.1 e.symm),lns_none h.2]
theorem lns_hit:∀{p:List UInt8} (r:List UInt8),(10:UInt8)∉p->lns (p++10::r)=p::lns r
 |[],r,_=>by simp[lns]
 |b::p,r,h=>by
  rw[List.mem_cons,not_or]at h;rw[List.cons_append,lns,if_neg (λe=>h.1 e.symm),lns_hit r h.2]
theorem idx_none:∀{l:List UInt8},(10:UInt8)∉l->Lib.index l [10]= -1
 |[],_=>rfl
 |b::l,h=>by
  rw[List.mem_cons,not_or]at h;simp[Lib.index,h.1,idx_none h.2]
theorem idx_hit:∀{p:List UInt8} (r:List UInt8),(10:UInt8)∉p->Lib.index (p++10::r) [10]=(p.length:Nat)
 |[],r,_=>by simp[Lib.index]
 |b::p,r,h=>by
  rw[List.mem_cons,not_or]at h;have hn:¬((p.length:Int)= -1):=by omega
  simp[Lib.index,h.1,idx_hit r h.2,hn]
theorem split_at:∀(l:List UInt8),(10:UInt8)∉l\/∃p r,l=p++10::r/\(10:UInt8)∉p
 |[]=>.inl (by simp)
 |b::l=>by
  by_cases h:b=10
  · exact .inr ⟨[],l,by rw[h];rfl,by simp⟩
  · have hb:¬(10:UInt8)=b:=λe=>h e.symm
    rcases split_at l with h1|⟨p,r,e,hp⟩
    · exact .inl (by simp[h1,hb])
    · exact .inr ⟨b::p,r,by rw[e];rfl,by simp[hp,hb]⟩
theorem lns_split:∀(n:Nat) (l:List UInt8),l.length<=n->Lib.splitK [10] 0 (Lib.count l [10]) l=lns l/\Lib.count l [10]+1=(lns l).length
 |n,l,hn=>by
  rcases split_at l with h|⟨p,r,rfl,h⟩
  · rw[Lib.count_miss (idx_none h),lns_none h]
    exact⟨rfl,rfl⟩
  · have hi:=idx_hit r h
    have hc:=Lib.count_hit (by simp) hi;have hd:(p++10::r).drop (p.length+[(10:UInt8)].length)=r:=by simp
    rw[hd]at hc
    match n,hn with
    |0,hn=>simp at hn
    |n+1,hn=>
     obtain⟨h1,h2⟩:=lns_split n r (by simp at hn;omega);have hne:¬((p.length:Int)== -1)=true:=by simp<;>omega
     rw[hc,lns_hit r h,Nat.add_comm 1,Lib.splitK,hi,if_neg hne];refine⟨?_,by simp;omega⟩;have e1:((p.length:Int)).toNat=p.length:=by simp
     rw[e1,hd,h1];simp
theorem at_of {L:List ByteArray} {l:List UInt8} {k:Nat} (h:(L.map (·.data.toList))[k]?=some l):L[k]?=some ⟨l.toArray⟩:=by
 rw[List.getElem?_map]at h;cases hk:L[k]? with
 |none=>rw[hk]at h;cases h
 |some x=>
  rw[hk]at h;simp only[Option.map_some,Option.some.injEq]at h;rw[<-h]
theorem statL_of {s:ByteArray} (h1:(lns s.data.toList).length=61) (h2:(lns s.data.toList)[2]?=some [58,109,101,116,104,111,100,32,80,79,83,84])
 (h3:(lns s.data.toList)[5]?=some [58,115,99,104,101,109,101,32,104,116,116,112]) (h4:(lns s.data.toList)[3]?=some [58,112,97,116,104,32,47]):StatL (Lib.splitB ⟨#[10]⟩ 0 (Lib.countB s ⟨#[10]⟩) s)/\Lib.countB s ⟨#[10]⟩+1=61:=by
 obtain⟨e1,e2⟩:=lns_split s.data.toList.length s.data.toList (Nat.le_refl _);have e3:(Lib.splitB ⟨#[10]⟩ 0 (Lib.countB s ⟨#[10]⟩) s).map (·.data.toList)=lns s.data.toList:=(Lib.splitB_data _ _ _ _).trans e1;refine⟨⟨?_,at_of (e3▸h2),at_of (e3▸h3),at_of (e3▸h4)⟩,e2.trans h1⟩;rw[<-h1,<-e3,List.length_map]
theorem stands_any (w:World) (m:Int) (hm:w.cell? ⟨13,0,none⟩=some (.int .i64 m)):
 Calls Tryz.prog 233 #[] w λe w'=>∃L,StatL L/\e= .returned (.slice (some ⟨w.heap.size,0,none⟩) 61 61)/\w'=w.alloc (.cells (L.map Value.string).toArray 9):=by
 have HS:=hid (λ(s:ByteArray) (hs:s.size<4294967281) (h1:(lns s.data.toList).length=61) (h2:(lns s.data.toList)[2]?=some [58,109,101,116,104,111,100,32,80,79,83,84]) (h3:(lns s.data.toList)[5]?=some [58,115,99,104,101,109,101,32,104,116,116,112]) (h4:(lns s.data.toList)[3]?=some [58,112,97,116,104,32,47])=>
  (show Calls Tryz.prog 255 #[.string s,.string ⟨#[10]⟩] w λe w'=>∃L,StatL L/\e= .returned (.slice (some ⟨w.heap.size,0,none⟩) 61 61)/\w'=w.alloc (.cells (L.map Value.string).toArray 9)from by
    obtain⟨k1,k2⟩:=statL_of h1 h2 h3 h4;refine(Tryz.strings_Split s ⟨#[10]⟩ m w hs hm (by decide)).mono ?_;intro e w' h;exact⟨_,k1,by rw[h.1,k2],h.2⟩))
 go_enter Tryz.func233,Tryz.ntmps233;go_wp2_with (first
  |(go_at_call 255
    refine Calls.mono (HS.out _ (of_decide_eq_true (by kernel_rfl)) (by kernel_rfl) (by kernel_rfl) (by kernel_rfl) (by kernel_rfl)) ?_;rintro e w1 ⟨L,hL,rfl,hw⟩;subst w1)
  |fail)
 go_ret;exact⟨L,hL,rfl,rfl⟩
theorem static_any (i:Nat) (h:Hd.HdrV) (hi:stat3 i=some h) (w:World) (m:Int) (hm:w.cell? ⟨13,0,none⟩=some (.int .i64 m)):
 Calls Tryz.prog 212 #[.int .i64 (i:Nat)] w λe w'=>e= .returned (.tuple #[.agg (hdrC h),.bool true])/\Below w.heap.size w w':=by
 have h1:=hid ((Below.refl w.heap.size w).alloc (Nat.le_refl _) (.cells #[.string ⟨#[]⟩,.string ⟨#[]⟩,.bool false] 63));have HX:=hid (Blk.new w 63 #[.string ⟨#[]⟩,.string ⟨#[]⟩,.bool false]);have hg:13<w.heap.size:=World.block_lt_of_cell? w _ hm;have HM:=hid (λ(W:World) (hb:Below w.heap.size w W)=>(show W.cell? ⟨13,0,none⟩=some (.int .i64 m)from(World.cell?_of_block (hb.block _ hg)).trans hm));clear hm hg;rcases stat3_at hi with⟨rfl,rfl⟩|⟨rfl,rfl⟩|⟨rfl,rfl⟩
 all_goals
  clear hi;go_enter Tryz.func212,Tryz.ntmps212;go_upto_region 3 with fail;generalize w.alloc (.cells #[.string ⟨#[]⟩,.string ⟨#[]⟩,.bool false] 63)=W0 at*
  have h3:=HM.out W0 h1.out;go_wp2_with (first
   |(go_at_call 233
     refine Calls.mono (stands_any W0 m h3) ?_;rintro e w1 ⟨L,hL,rfl,hw⟩;have h2:=hid (h1.out.alloc h1.out.size (.cells (L.map Value.string).toArray 9));have k2:w1.cell? ⟨W0.heap.size,2,none⟩=some (.string ⟨#[58,109,101,116,104,111,100,32,80,79,83,84]⟩):=by
      rw[hw];exact((Blk.new W0 9 (L.map Value.string).toArray).cell 2).trans (by simp[hL.2.1])
     have k5:w1.cell? ⟨W0.heap.size,5,none⟩=some (.string ⟨#[58,115,99,104,101,109,101,32,104,116,116,112]⟩):=by
      rw[hw];exact((Blk.new W0 9 (L.map Value.string).toArray).cell 5).trans (by simp[hL.2.2.1])
     have k3:w1.cell? ⟨W0.heap.size,3,none⟩=some (.string ⟨#[58,112,97,116,104,32,47]⟩):=by
      rw[hw];exact((Blk.new W0 9 (L.map Value.string).toArray).cell 3).trans (by simp[hL.2.2.2])
     rw[<-hw]at h2;have h0:Blk w1 w.heap.size 63 #[.string ⟨#[]⟩,.string ⟨#[]⟩,.bool false]:=hw▸HX.out.alloc _;have h4:=HM.out w1 h2.out;clear hL hw)
   |(go_at_call 232
     refine Calls.mono (Tryz.strings_Cut _ _ m _ (by decide) h4) ?_;rintro e w2 ⟨rfl,n,hw⟩;subst w2;have h5:=h0.drewN n;have x0:=h0.cell 0;have x1:=h0.cell 1;have x2:=h0.cell 2;have xf:=h0.frozen 0;have xf1:=h0.frozen 1;have xf2:=h0.frozen 2;simp only[List.getElem?_toArray,List.getElem?_cons_zero,List.getElem?_cons_succ]at x0 x1 x2)
   |fail)
  refine bodyPost_ret (results_static _ _ w.heap.size _ _ _ _ rfl rfl (Blk3 h5 rfl _ _ _)) rfl ⟨by kernel_rfl,below3 (bdN h2.out n) (Nat.le_refl _) _ _ _⟩
theorem tget_any (tv:Value) (i:Nat) (h:Hd.HdrV) (hi:stat3 i=some h) (w:World) (m:Int) (hm:w.cell? ⟨13,0,none⟩=some (.int .i64 m)):
 Calls Tryz.prog 170 #[tv,.int .i64 (i:Nat)] w λe w'=>e= .returned (.tuple #[.agg (hdrC h),.bool true])/\Below w.heap.size w w':=by
 have h1:=hid ((Below.refl w.heap.size w).alloc (Nat.le_refl _) (.cells #[.string ⟨#[]⟩,.string ⟨#[]⟩,.bool false] 63));have HX:=hid (Blk.new w 63 #[.string ⟨#[]⟩,.string ⟨#[]⟩,.bool false]);have hg:13<w.heap.size:=World.block_lt_of_cell? w _ hm;have h2:(w.alloc (.cells #[.string ⟨#[]⟩,.string ⟨#[]⟩,.bool false] 63)).cell? ⟨13,0,none⟩=some (.int .i64 m):=(World.cell?_of_block (h1.out.block _ hg)).trans hm;have h4:(i:Int)<=61:=by
  rcases stat3_at hi with⟨rfl,_⟩|⟨rfl,_⟩|⟨rfl,_⟩<;>decide
 have HS:=hid (static_any i h hi _ m h2);clear hm hg h2 hi;obtain⟨hn,hv,hne⟩:=h;simp only[hdrC]at HS ⊢;go_enter Tryz.func170,Tryz.ntmps170;go_upto_region 1 with fail;generalize w.alloc (.cells #[.string ⟨#[]⟩,.string ⟨#[]⟩,.bool false] 63)=W0 at*
 go_wp2_with fail;refine HS.out.mono ?_;rintro e w1 ⟨rfl,hb⟩;have h3:=hid (h1.out.trans (hb.mono h1.out.size));have h0:=hid (HX.out.below hb HX.out.lt);clear hb;have x0:=h0.out.cell 0;have x1:=h0.out.cell 1;have x2:=h0.out.cell 2;have xf:=h0.out.frozen 0;have xf1:=h0.out.frozen 1;have xf2:=h0.out.frozen 2;simp only[List.getElem?_toArray,List.getElem?_cons_zero,List.getElem?_cons_succ]at x0 x1 x2;go_wp2;refine bodyPost_ret (results_tget _ _ w.heap.size _ _ _ _ rfl rfl (Blk3 h0.out rfl _ _ _)) rfl ⟨rfl,below3 h3.out (Nat.le_refl _) _ _ _⟩
theorem hgive_nil (w:World):Calls Tryz.prog 242 #[.nilIface] w λe w'=>e= .returned (.tuple #[])/\w'=w:=by
 go_enter Tryz.func242,Tryz.ntmps242;go_wp2;go_end0;exact⟨rfl,rfl⟩
theorem int_small (A:Option Addr) (n c B:Nat) (x:UInt8) (l:List UInt8) (i:Nat) (w:World) (hr:Rd w B A n (x::l)) (hx:x.toNat=128+i) (hi:stat3 i≠none):
 Calls Tryz.prog 256 #[.slice A n c,.int .i64 7] w λe w'=>e= .returned (.tuple #[.int .i64 (i:Nat),.int .i64 1,.nilIface])/\w'=w:=by
 have hl:=hr.1;obtain⟨ad,rfl,hb,h0⟩:=hr.at_ (k:=0) (by rw[<-hl];simp);have h1:¬(n:Int)=0:=by rw[<-hl];simp;omega
 have h3:((n:Int)==0)=false:=by simpa using h1
 have h4:(0:Int)<(n:Int):=by omega
 have h0:w.cell? ad=some (.int .u8 (x.toNat:Int)):=h0;have h2:i=3\/i=6\/i=4:=by
  cases hs:stat3 i with
  |none=>exact absurd hs hi
  |some h=>rcases stat3_at hs with⟨e,_⟩|⟨e,_⟩|⟨e,_⟩<;>omega
 have b3:bits .and .i64 131 127=3:=by decide
 have b6:bits .and .i64 134 127=6:=by decide
 have b4:bits .and .i64 132 127=4:=by decide
 clear hr hi;rcases h2 with rfl|rfl|rfl
 all_goals
  rw[hx]at h0;simp only[Nat.reduceAdd,Int.cast_ofNat_Int]at h0;clear hx;go_enter Tryz.func256,Tryz.ntmps256;go_wp2;refine wp_scope_straight ?_;go_wp2;simp only[Exit.noGoto_ret];go_ret3;exact⟨rfl,rfl⟩
end Go.Proofs.YtkpppjhbmnfmkaaGreatDoor
end

section
set_option maxHeartbeats 2000000
set_option maxRecDepth 100000
namespace Go.Own
open Lib (hid)
open Go.RowKit
theorem Ow.lit (w:World) (e:TypeId) (l:List UInt8) (hl:l.length<=1000):Ow (w.alloc (.cells (l.map bv).toArray e)) w.heap.size e (.slice (some ⟨w.heap.size,0,none⟩) l.length l.length) l.length l:=by
 have h:=Cm.Ew.lit (λb:UInt8=>#[bv b]) e (k:=1) (λ_=>rfl) w l hl;have e2:∀l:List UInt8,Cm.flat (λb:UInt8=>#[bv b]) l=l.map bv:=by
  intro l
  induction l with
  |nil=>rfl
  |cons x l ih=>rw[show Cm.flat (λb:UInt8=>#[bv b]) (x::l)=bv x::Cm.flat (λb:UInt8=>#[bv b]) l from rfl,ih];rfl
 unfold Cm.Ew at h;rw[e2]at h;exact h
end Go.Own
namespace Go.Proofs.YtkpppjhbmnfmkaaGreatDoor
open Lib (hid)
open Go.RowKit Go.Own Go.Own.Fr
theorem lawNumber_any (n:Nat) (w:World) (hn:n<4294967296):
 Calls Tryz.prog 17 #[.int .i64 (n:Nat)] w λe w'=>e= .returned (.slice (some ⟨w.heap.size,0,none⟩) 4 4)/\Rd w' (w.heap.size+1) (some ⟨w.heap.size,0,none⟩) 4 (be n 4)/\Below w.heap.size w w':=by
 go_enter Tryz.func17,Tryz.ntmps17;go_wp2;go_ret;refine⟨rfl,?_,(Below.refl _ _).alloc (Nat.le_refl _) _⟩;refine Rd.lits w _ (be n 4) 5 ?_;simp[be,bv];omega
theorem lawAck_any (w:World):Calls Tryz.prog 12 #[] w λe w'=>∃A c,e= .returned (.slice A 9 c)/\Ow w' w.heap.size 5 (.slice A 9 c) 9 (frameB 4 1 0 [])/\Below w.heap.size w w':=by
 have HF:=hid (lawFrame_any none 0 0 4 1 0 w.heap.size [] w ⟨rfl,λh=>absurd h (by omega)⟩ (Nat.le_refl _) (by omega) (by omega) (by omega) (by omega));go_enter Tryz.func12,Tryz.ntmps12;go_wp2_with fail;refine HF.out.mono ?_;rintro e w1 ⟨A',c',rfl,ho,hb⟩;have HO:=hid ho;have HB:=hid hb;clear ho hb;go_wp2;go_ret;exact⟨_,_,rfl,HO.out,HB.out⟩
theorem lawSetting_any (k v:Nat) (w:World) (hk:k<=255) (hv:v<4294967296):Calls Tryz.prog 31 #[.int .i64 (k:Nat),.int .i64 (v:Nat)] w λe w'=>∃A c,e= .returned (.slice A 6 c)/\Ow w' w.heap.size 5 (.slice A 6 c) 6 (be k 2++be v 4)/\Below w.heap.size w w':=by
 have HN:=hid (λW=>lawNumber_any v W hv);have HO:=hid (show Ow (w.alloc (.cells #[.int .u8 0,.int .u8 (k:Nat)] 5)) w.heap.size 5 (.slice (some ⟨w.heap.size,0,none⟩) 2 2) 2 (be k 2)from by
  have h:=Ow.lit w 5 (be k 2) (by rw[be_len];omega);have e:((be k 2).map bv).toArray= #[.int .u8 0,.int .u8 (k:Nat)]:=by
   simp[be,bv];omega
  rw[e,be_len]at h;exact h)
 clear hv;go_enter Tryz.func31,Tryz.ntmps31;go_wp2_with fail;refine(HN.out _).mono ?_;rintro e w1 ⟨rfl,hr,hb⟩;have HR:=hid hr;have HB:=hid hb;have h0:=hid (HO.out.below hb (λg hg=>(HO.out.lt hg).1));clear hr hb;go_wp2_with (first
  |(at_builtin
    refine wpList_app_any _ byteP rfl (.tmp 7) (.tmp 9) rfl w.heap.size _ 2 (be k 2) rfl h0.out _ _ 4 4 (be v 4) rfl (by first|exact HR.out|simpa using HR.out) ?_ ?_ ?_
    · omega
    · have:=HB.out.size;simp at this;omega
    intro A2 cap2 w2 h1 h2 _ _ _;have h3:=hid h1;have h4:=hid (below_own (((Below.refl w.heap.size w).alloc (Nat.le_refl _) (.cells #[.int .u8 0,.int .u8 (k:Nat)] 5)).trans (HB.out.mono (by simp))) (Nat.le_refl _) h0.out h2);clear h1 h2)
  |fail)
 go_ret;exact⟨_,_,rfl,h3.out,h4.out⟩
end Go.Proofs.YtkpppjhbmnfmkaaGreatDoor
end

section
set_option maxHeartbeats 4000000
set_option maxRecDepth 100000
namespace Go.Proofs.YtkpppjhbmnfmkaaGreatDoor
open Lib (hid)
open Go.RowKit Go.Own Go.Own.Fr
theorem hello2_any (w:World):Calls Tryz.prog 11 #[.int .i64 2] w λe w'=>∃A c,e= .returned (.slice A 33 c)/\Oz w' (λg=>w.heap.size<=g) (.slice A 33 c) (prefB++frameB 4 0 0 [])/\Below w.heap.size w w':=by
 have HF:=hid (lawFrame_any none 0 0 4 0 0 w.heap.size [] w ⟨rfl,λh=>absurd h (by omega)⟩ (Nat.le_refl _) (by omega) (by omega) (by omega) (by omega));go_enter Tryz.func11,Tryz.ntmps11;go_wp2_with fail;refine HF.out.mono ?_;rintro e w1 ⟨A1,c1,rfl,h6,h7⟩;have h8:=hid h6;have h1:=hid h7;clear h6 h7;go_wp2_with fail;refine(prefaceR_any w1).mono ?_;rintro e w2 ⟨rfl,h2,h3⟩;have h0:w1.heap.size<w2.heap.size:=by
  obtain⟨ad,e,hj,hc⟩:=h2.2 (by decide);injection e with e
  subst e;exact(World.block_lt_of_cell? w2 _ (hc 0 (by decide)))
 have he:=hid (Oz.full (own:=λg=>w.heap.size<=g) h2 h0 (by decide) h1.out.size (by decide));have hf:=hid ((h8.out.below h3 (λg hg=>(h8.out.lt hg).1)).rd);have h4:=hid (h1.out.trans (h3.mono h1.out.size));clear h2 h3 h0;have h5:prefB.length+(9+0)<=140737488355328:=by decide
 go_wp2_with (first
  |(refine wpList_app_z byteP _ rfl (.tmp 7) (.tmp 8) rfl (λg=>w.heap.size<=g) (.slice (some ⟨w1.heap.size,0,none⟩) 24 24) prefB rfl he.out w2.heap.size A1 (9+0) c1 (frameB 4 0 0 []) rfl hf.out h5 ?_
    intro A3 c3 w3 row3 h9 hb hd;have hh:=hid (h9.owned (own':=λg=>w.heap.size<=g) (λg _ h=>by rcases h with h|⟨_,h⟩;exact h;rw[h];exact h4.out.size));have hi:=hid (h4.out.grown hb h4.out.size (λg e=>(hd g e).1));clear h9 hb hd)
  |fail)
 go_ret;exact⟨A3,c3,rfl,hh.out,hi.out⟩
end Go.Proofs.YtkpppjhbmnfmkaaGreatDoor
end

section
namespace Go.Own.Im
open Go Go.RowKit Go.Own
def KM (P:Program) (kt:TypeId) (w:World) (b n:Nat) (f:Value->Option Value):Prop:=
 ∃D,w.ownsMap P kt Rh b n D/\Maps.IsMap D/\∀key kl,keyOf P kt key=some kl->Maps.has D kl=(f key).isSome/\∀z v,f key=some v->D.atKey kl z= .held v
section
variable {P:Program} {kt:TypeId} {w w':World} {b n:Nat} {f:Value->Option Value}
theorem KM.lt (h:KM P kt w b n f):b<w.heap.size:=by
 obtain⟨D,h1,_⟩:=h;exact h1.lt
theorem KM.kept {row:Option Nat} (h:KM P kt w b n f) (hg:w.grownBy w' row) (hne:some b≠row):KM P kt w' b n f:=by
 obtain⟨D,h1,h2⟩:=h;exact⟨D,h1.kept hg hne,h2⟩
theorem KM.alloc (h:KM P kt w b n f) (o:Obj):KM P kt (w.alloc o) b n f:=h.kept (World.grownBy_alloc w o none) (by simp)
theorem KM.below {B:Nat} (h:KM P kt w b n f) (hb:Below B w w') (hB:b<B):KM P kt w' b n f:=by
 obtain⟨D,⟨es,clock,he,h1⟩,h2⟩:=h;exact⟨D,⟨es,clock,(hb.block b hB).trans he,h1⟩,h2⟩
theorem KM.same (h:KM P kt w b n f) {g:Value->Option Value} (hg:∀k,f k=g k):KM P kt w b n g:=by
 have:f=g:=funext hg;exact this▸h
theorem KM.made (P:Program) (kt:TypeId) (w:World):KM P kt (w.alloc (.map #[] 0)) w.heap.size 0 λ_=>none:=
 ⟨.map [],World.ownsMap_made w P kt Rh,Maps.isMap_empty,λ_ _ _=>⟨rfl,λ_ _ h=>by cases h⟩⟩
variable {t e:TypeId} (ht:P.underlying t=some (.map kt e)) (K:Maps.Keyed P kt)
include ht K
theorem KM.look_ok (h:KM P kt w b n f) {z:Value} (hz:(zeroValue e).run P w= .ok z w) {key:Value} {kl:Lit} (hk:keyOf P kt key=some kl):
 (Instr.lookup t (.map (some b)) key true).run P w= .ok (.tuple #[(f key).getD z,.bool (f key).isSome]) w:=by
 obtain⟨D,h1,h2,h3⟩:=h;obtain⟨v,ps,h0,hv⟩:=h1.look_ok K ht hz (zd:=.held z) (zp:=[]) rfl hk;rw[h0,(h3 key kl hk).1];refine congrArg (λx=>Result.ok (Value.tuple #[x,.bool (f key).isSome]) w) ?_;cases hf:f key with
 |none=>
  have hn:=(h3 key kl hk).1;rw[hf]at hn;change Rh v=some (D.atKey kl _,ps)at hv;rw[Maps.atKey_of_not_has hn]at hv;simp only[Rh,Option.some.injEq,Prod.mk.injEq,DataW.held.injEq]at hv;rw[hv.1];rfl
 |some u=>
  change Rh v=some (D.atKey kl _,ps)at hv;rw[(h3 key kl hk).2 _ u hf]at hv;simp only[Rh,Option.some.injEq,Prod.mk.injEq,DataW.held.injEq]at hv;rw[hv.1];rfl
theorem KM.put (h:KM P kt w b n f) (hn:n<maxLen) {key:Value} {kl:Lit} (hk:keyOf P kt key=some kl) (v:Value) (g:Value->Option Value) (hg1:g key=some v) (hg2:∀x,x≠key->g x=f x):
 ∃w',(Instr.mapUpdate t (.map (some b)) key v).run P w= .ok () w'/\KM P kt w' b (n+1) g/\w.grownBy w' (some b):=by
 obtain⟨D,h1,h2,h3⟩:=h;obtain⟨w',h0,r1,r2⟩:=h1.update K ht hn hk (val:=v) (d:=.held v) (ps:=[]) rfl;refine⟨w',h0,⟨_,r1,h2.put _ _,λx lx hx=>?_⟩,r2⟩;by_cases ex:lx=kl
 · subst ex
   have:=K.inj hx hk;subst this;rw[hg1];exact⟨Maps.has_put_same h2 (K.key hk) _,λz u hu=>by injection hu with hu;subst hu;exact Maps.atKey_put_same h2 (K.key hk) _ _⟩
 · have hne:x≠key:=λe2=>by
    subst e2;rw[hk]at hx;injection hx with hx
    exact ex hx.symm
   rw[hg2 x hne];refine⟨(Maps.has_put_other ex _).trans (h3 x lx hx).1,λz u hu=>?_⟩;exact(Maps.atKey_put_other ex _ _).trans ((h3 x lx hx).2 z u hu)
end
section
variable {P:Program} {ops:Array Oper} {rest:List Oper} {o:Oper} {a:Act} {Q:Exit->Act->World->Prop}
theorem wpList_kput (w:World) (hg:o.guard=none) (m x v:Operand) (t:TypeId) (h0:o.op=Op.insert t m x v\/o.op=Op.mapUpdate t m x v) {kt e:TypeId} (ht:P.underlying t=some (.map kt e)) (K:Maps.Keyed P kt)
 (b n:Nat) (f:Value->Option Value) (hm:a.eval m= .map (some b)) (h:KM P kt w b n f) (hn:n<maxLen) (key:Value) (kl:Lit) (hk:keyOf P kt key=some kl) (hx:a.eval x=key) (u:Value) (hv:a.eval v=u) (g:Value->Option Value) (h2:g key=some u) (h3:∀y,y≠key->g y=f y)
 (hK:∀w',KM P kt w' b (n+1) g->w.grownBy w' (some b)->wpList P ops Q rest (a.put o.dst undef) w'):wpList P ops Q (o::rest) a w:=by
 refine wpList_plain hg λK' h4=>?_;obtain⟨w',h1,r1,r2⟩:=h.put ht K hn hk u g h2 h3;unfold Oper.wp;rcases h0 with h0|h0<;>simp[execOp,h0,hm,hx,hv,h1,Result.andThen]<;>exact h4 _ _ (hK w' r1 r2)
end
end Go.Own.Im
end

section
namespace Go.Proofs.YtkpppjhbmnfmkaaGreatDoor
open Go.RowKit Go.Own Go.Own.Hf Go.Own.Im
attribute [local go_sem] Oper.semAt_some
theorem word_keyed:Maps.Keyed Tryz.prog 324:=Maps.Keyed.of_law (deep_law_laid (by kernel_rfl) (m:=2) (by omega) (of_decide_eq_true (by kernel_rfl)) (by kernel_rfl) (by rw[Tryz.underlying324]))
def wd (c n:Nat):Value:=.agg #[.int .u32 (c:Nat),.int .i64 (n:Nat)]
theorem word_key (c n:Nat) (hc:c<4294967296) (hn:n<=1000):∃kl,keyOf Tryz.prog 324 (wd c n)=some kl:=by
 have h1:(Lit.int .u32 (c:Int)).wf=true:=by simp[Lit.wf,IntKind.min,IntKind.max,IntKind.bits,IntKind.signed];omega
 have h2:(Lit.int .i64 (n:Int)).wf=true:=by simp[Lit.wf,IntKind.min,IntKind.max,IntKind.bits,IntKind.signed];omega
 have k1:Tryz.prog.keyType 324=true:=by kernel_rfl
 have k2:(wd c n).formed Tryz.prog 324=true:=by
  have c2:Tryz.prog.cellsOf 324=2:=by kernel_rfl
  simp[wd,Value.formed,Tryz.underlying324,c2]
 have k3:Tryz.prog.keyLits (Tryz.prog.types.size+1) 324 [.int .u32 (c:Int),.int .i64 (n:Int)]=some [.int .u32 (c:Int),.int .i64 (n:Int)]:=by
  obtain⟨d,hd⟩:∃d,Tryz.prog.types.size=d+1:=⟨Tryz.prog.types.size-1,by have:0<Tryz.prog.types.size:=of_decide_eq_true (by kernel_rfl);omega⟩;have c2:Tryz.prog.cellsOf 324=2:=by kernel_rfl
  have c3:Tryz.prog.cellsOf 229=1:=by kernel_rfl
  have c4:Tryz.prog.cellsOf 3=1:=by kernel_rfl
  have i1:∀v:Int,(Lit.int .u32 v).wf=true->Tryz.prog.keyLits (d+1) 229 [.int .u32 v]=some [.int .u32 v]:=λv hv=>by
   simp[Program.keyLits,Tryz.underlying229,hv]
  have i2:∀v:Int,(Lit.int .i64 v).wf=true->Tryz.prog.keyLits (d+1) 3 [.int .i64 v]=some [.int .i64 v]:=λv hv=>by
   simp[Program.keyLits,Tryz.underlying3,hv]
  rw[hd];generalize hq:d+1=q at*
  unfold Program.keyLits;rw[Tryz.underlying324];simp[c2,c3,c4,i1 _ h1,i2 _ h2]
 unfold keyOf;rw[Tryz.underlying324,k1,k2];refine⟨.string (keyBytes [.int .u32 (c:Int),.int .i64 (n:Int)]),?_⟩;simp only[Bool.and_self,if_true];exact congrArg (Option.map λls=>Lit.string (keyBytes ls)) k3
end Go.Proofs.YtkpppjhbmnfmkaaGreatDoor
end

section
namespace Go
def Exit.many (G : Nat → Act → World → Prop) (Q : Exit → Act → World → Prop) : Exit → Act → World → Prop
 | .goto l, a, w => G l a w
 | e, a, w => Q e a w
section
variable {P : Program} {a : Act} {w : World} {Q : Exit → Act → World → Prop}
theorem wp_scope_many {c : Code} (J : Nat → Act → World → Prop) (μ : Nat → Act → World → Nat) (hf : ∀ l a w, J l a w → ∃ r, findLabel c l = some (.seq .skip r))
 (first : (∀ l r, findLabel c l = some (.seq .skip r) → ∀ a w, J l a w → r.wp P (Exit.many (fun l' a' w' => J l' a' w') Q) a w) → c.wp P (Exit.many J Q) a w)
 (pass0 : ∀ l r, findLabel c l = some (.seq .skip r) → ∀ a w, J l a w → r.wp P (Exit.many (fun l' a' w' => J l' a' w' ∧ μ l' a' w' < μ l a w) Q) a w) : (Code.scope c).wp P Q a w := by
 have pass : ∀ l r, findLabel c l = some r → ∀ a w, J l a w → r.wp P (Exit.many (fun l' a' w' => J l' a' w' ∧ μ l' a' w' < μ l a w) Q) a w := fun l r hl a w hJ => by
  obtain ⟨r', h2⟩ := hf l a w hJ
  rw [h2] at hl
  injection hl with hl
  subst hl
  exact wp_seq (wp_skip (pass0 l r' h2 a w hJ))
 intro b k cs
 have hg : ∀ l r, findLabel c l = some r → gotoIn l (.inScope c :: k) = some (.code r :: .inScope c :: k) := fun l r h => by simp [gotoIn, h]
 have key : ∀ n l r a w, findLabel c l = some r → μ l a w = n → J l a w → ∃ e a' w', Q e a' w' ∧ Arrives P (lone (b.at a (.code r :: .inScope c :: k)) cs w) b k cs e a' w' := by
  intro n
  induction n using Nat.strongRecOn with
  | _ n ih =>
    intro l r a w hl hn hJ
    obtain ⟨e, a₁, w₁, hq, h0⟩ := pass l r hl a w hJ b (.inScope c :: k) cs
    cases e with
    | normal => exact ⟨.normal, a₁, w₁, hq, Steps.trans h0 (.one step_inScope)⟩
    | exit id => exact ⟨.exit id, a₁, w₁, hq, fun k' hk => h0 k' (by simp [exitTo, hk])⟩
    | goto l' =>
      obtain ⟨h4, h5⟩ := hq
      obtain ⟨r0, h2⟩ := hf _ _ _ h4
      obtain ⟨e₂, a₂, w₂, h3, h1⟩ := ih _ (by omega) l' _ a₁ w₁ h2 rfl h4
      exact ⟨e₂, a₂, w₂, h3, .of_steps (h0 _ (hg _ _ h2)) h1⟩
    | ret => exact ⟨_, a₁, w₁, hq, h0⟩
    | panic ch => exact ⟨_, a₁, w₁, hq, h0⟩
    | outgrown => exact ⟨_, a₁, w₁, hq, h0⟩
 have first' := first fun l r hl a w hJ => by
  refine Code.wp_mono (fun e a' w' h => ?_) (pass0 l r hl a w hJ)
  cases e with
  | goto l => exact h.1
  | normal => exact h
  | exit id => exact h
  | ret => exact h
  | panic ch => exact h
  | outgrown => exact h
 obtain ⟨e, a₁, w₁, hq, h0⟩ := first' b (.inScope c :: k) cs
 cases e with
 | normal => exact ⟨.normal, a₁, w₁, hq, .head step_scope (Steps.trans h0 (.one step_inScope))⟩
 | exit id => exact ⟨.exit id, a₁, w₁, hq, fun k' hk => .head step_scope (h0 k' (by simp [exitTo, hk]))⟩
 | goto l' =>
   obtain ⟨r', h2⟩ := hf _ _ _ hq
   obtain ⟨e₂, a₂, w₂, h3, h1⟩ := key _ l' _ a₁ w₁ h2 rfl hq
   exact ⟨e₂, a₂, w₂, h3, .of_steps (.head step_scope (h0 _ (hg _ _ h2))) h1⟩
 | ret => exact ⟨_, a₁, w₁, hq, .of_steps (.one step_scope) h0⟩
 | panic ch => exact ⟨_, a₁, w₁, hq, .of_steps (.one step_scope) h0⟩
 | outgrown => exact ⟨_, a₁, w₁, hq, .of_steps (.one step_scope) h0⟩
end
end Go
end

section
set_option maxHeartbeats 4000000
set_option maxRecDepth 100000
namespace Go.Proofs.YtkpppjhbmnfmkaaGreatDoor
open Lib (hid)
open Go.RowKit Go.Own Go.Own.Hf Go.Own.Im
attribute [local go_sem] Oper.semAt_some
open Classical in
noncomputable def kf (k:Nat) (v:Value):Option Value:=if h:∃s,s<k/\v=wd (cd s) (sz s)then some (.int .i64 (Classical.choose h:Nat))else none
theorem wd_inj {a b c d:Nat} (h:wd a b=wd c d):a=c/\b=d:=by
 injection h with h
 injection h with h
 injection h with h1 h2
 injection h1 with _ h1
 injection h2 with h2 _
 injection h2 with _ h2
 omega
theorem cd_inj {s t:Nat} (hs:s<257) (ht:t<257) (h:wd (cd s) (sz s)=wd (cd t) (sz t)):s=t:=by
 obtain⟨h1,h2⟩:=wd_inj h;have:=look_of hs;rw[h1,h2,look_of ht]at this;injection this with this
 exact this.symm
theorem kf_at {k s:Nat} (hk:k<=257) (hs:s<k):kf k (wd (cd s) (sz s))=some (.int .i64 (s:Nat)):=by
 have h:∃t,t<k/\wd (cd s) (sz s)=wd (cd t) (sz t):=⟨s,hs,rfl⟩;rw[kf,dif_pos h];have h2:=Classical.choose_spec h;rw[<-cd_inj (by omega) (by omega) h2.2]
theorem kf_other {k:Nat} (v:Value) (hk:k<257) (hv:v≠wd (cd k) (sz k)):kf (k+1) v=kf k v:=by
 by_cases h:∃s,s<k/\v=wd (cd s) (sz s)
 · obtain⟨s,hs,rfl⟩:=h
   rw[kf_at (by omega) hs,kf_at (by omega) (by omega)]
 · have h2:¬∃s,s<k+1/\v=wd (cd s) (sz s):=by
    rintro⟨s,hs,e⟩;rcases Nat.lt_or_ge s k with h3|h3
    · exact h ⟨s,h3,e⟩
    · have:s=k:=by omega
      subst this;exact hv e
   rw[kf,kf,dif_neg h,dif_neg h2]
theorem kf_look (c n:Nat):kf 257 (wd c n)=(Hf.look c n).map λs:Nat=>Value.int .i64 (s:Int):=by
 cases h:Hf.look c n with
 |some s=>
  obtain⟨h1,h2,h3⟩:=look_is h;rw[<-h2,<-h3,kf_at (Nat.le_refl _) h1]
  rfl
 |none=>
  rw[kf,dif_neg]
  · rfl
  · rintro⟨s,hs,e⟩
    obtain⟨h1,h2⟩:=wd_inj e;have:=look_of hs;rw[<-h1,<-h2,h]at this;cases this
theorem idx_cod {v:Value} (hv:CodV v) {s:Nat} (hs:s<257) (W:World):(Instr.index 250 v (.int .i64 (s:Int))).run Tryz.prog W= .ok (.int .u32 (cd s:Nat)) W:=by
 obtain⟨cs,rfl,hz,hc⟩:=hv;have h1:=hc s hs;obtain⟨i,hi,h0⟩:=Option.map_eq_some_iff.1 (show(Tryz.prog.info? 229).map (·.size)=some 1 by kernel_rfl);have h4:(s:Int)<257:=by omega
 have h2:s<cs.size:=by omega
 rw[Array.getElem?_eq_getElem h2]at h1;injection h1 with h1
 have ha:∀W,(isAgg 229).run Tryz.prog W= .ok false W:=λW=>by simp[isAgg,run_underlying Tryz.underlying229]
 have h3:∀W,(sizeOf 229).run Tryz.prog W= .ok 1 W:=λW=>by simp[sizeOf,typeInfo,hi,h0]
 simp[Instr.index,run_underlying Tryz.underlying250,asIntOf,hs,h3,part,ha,Array.getElem?_eq_getElem h2,h1]
theorem arr_gen (t:Array Value) (n:Nat) (h:t.size=n):t=((List.range n).map (λk=>t.getD k undef)).toArray:=by
 apply Array.ext
 · simp[h]
 · intro i h1 h2
   simp[Array.getD,h1]
theorem arr90 (t:Array Value) (h:t.size=90):t=(t.getD 0 undef::t.getD 1 undef::t.getD 2 undef::t.getD 3 undef::t.getD 4 undef::t.getD 5 undef::t.getD 6 undef::t.getD 7 undef::t.getD 8 undef::t.getD 9 undef::t.getD 10 undef::t.getD 11 undef::t.getD 12 undef::t.getD 13 undef::t.getD 14 undef::t.getD 15 undef::t.getD 16 undef::t.getD 17 undef::t.getD 18 undef::t.getD 19 undef::t.getD 20 undef::t.getD 21 undef::t.getD 22 undef::t.getD 23 undef::t.getD 24 undef::t.getD 25 undef::t.getD 26 undef::t.getD 27 undef::t.getD 28 undef::t.getD 29 undef::t.getD 30 undef::t.getD 31 undef::t.getD 32 undef::t.getD 33 undef::t.getD 34 undef::t.getD 35 undef::t.getD 36 undef::t.getD 37 undef::t.getD 38 undef::t.getD 39 undef::t.getD 40 undef::t.getD 41 undef::t.getD 42 undef::t.getD 43 undef::t.getD 44 undef::t.getD 45 undef::t.getD 46 undef::t.getD 47 undef::t.getD 48 undef::t.getD 49 undef::t.getD 50 undef::t.getD 51 undef::t.getD 52 undef::t.getD 53 undef::t.getD 54 undef::t.getD 55 undef::t.getD 56 undef::t.getD 57 undef::t.getD 58 undef::t.getD 59 undef::t.getD 60 undef::t.getD 61 undef::t.getD 62 undef::t.getD 63 undef::t.getD 64 undef::t.getD 65 undef::t.getD 66 undef::t.getD 67 undef::t.getD 68 undef::t.getD 69 undef::t.getD 70 undef::t.getD 71 undef::t.getD 72 undef::t.getD 73 undef::t.getD 74 undef::t.getD 75 undef::t.getD 76 undef::t.getD 77 undef::t.getD 78 undef::t.getD 79 undef::t.getD 80 undef::t.getD 81 undef::t.getD 82 undef::t.getD 83 undef::t.getD 84 undef::t.getD 85 undef::t.getD 86 undef::t.getD 87 undef::t.getD 88 undef::t.getD 89 undef::[]).toArray:=by
 exact arr_gen t 90 h
structure HA (a:Act) (v0 v4 v9 v10 v11:Value):Prop where
 dfr:a.defers=[]
 size:a.tmps.size=90
 s0:a.tmps.getD 0 undef=v0
 s4:a.tmps.getD 4 undef=v4
 s9:a.tmps.getD 9 undef=v9
 s10:a.tmps.getD 10 undef=v10
 s11:a.tmps.getD 11 undef=v11
theorem HA.lit {a:Act} {v0 v4 v9 v10 v11:Value} (h:HA a v0 v4 v9 v10 v11):∃u:Nat->Value,a={tmps:=(v0::u 1::u 2::u 3::v4::u 5::u 6::u 7::u 8::v9::v10::v11::u 12::u 13::u 14::u 15::u 16::u 17::u 18::u 19::u 20::u 21::u 22::u 23::u 24::u 25::u 26::u 27::u 28::u 29::u 30::u 31::u 32::u 33::u 34::u 35::u 36::u 37::u 38::u 39::u 40::u 41::u 42::u 43::u 44::u 45::u 46::u 47::u 48::u 49::u 50::u 51::u 52::u 53::u 54::u 55::u 56::u 57::u 58::u 59::u 60::u 61::u 62::u 63::u 64::u 65::u 66::u 67::u 68::u 69::u 70::u 71::u 72::u 73::u 74::u 75::u 76::u 77::u 78::u 79::u 80::u 81::u 82::u 83::u 84::u 85::u 86::u 87::u 88::u 89::[]).toArray,defers:=[]}:=by
 refine⟨λk=>a.tmps.getD k undef,?_⟩;obtain⟨t,df⟩:=a;obtain⟨h1,hz,e0,e4,e9,e10,e11⟩:=h;have h2:=arr90 t hz;simp only at h1 e0 e4 e9 e10 e11;rw[h1]
 congr 1
 rw[e0,e4,e9,e10,e11]at h2;exact h2
theorem lit0 {a:Act} (h1:a.defers=[]) (hz:a.tmps.size=90):∃u:Nat->Value,a={tmps:=(u 0::u 1::u 2::u 3::u 4::u 5::u 6::u 7::u 8::u 9::u 10::u 11::u 12::u 13::u 14::u 15::u 16::u 17::u 18::u 19::u 20::u 21::u 22::u 23::u 24::u 25::u 26::u 27::u 28::u 29::u 30::u 31::u 32::u 33::u 34::u 35::u 36::u 37::u 38::u 39::u 40::u 41::u 42::u 43::u 44::u 45::u 46::u 47::u 48::u 49::u 50::u 51::u 52::u 53::u 54::u 55::u 56::u 57::u 58::u 59::u 60::u 61::u 62::u 63::u 64::u 65::u 66::u 67::u 68::u 69::u 70::u 71::u 72::u 73::u 74::u 75::u 76::u 77::u 78::u 79::u 80::u 81::u 82::u 83::u 84::u 85::u 86::u 87::u 88::u 89::[]).toArray,defers:=[]}:=by
 refine⟨λk=>a.tmps.getD k undef,?_⟩;obtain⟨t,df⟩:=a;have h2:=arr90 t hz;simp only at h1;rw[h1]
 congr 1
theorem w64_succ (i:Nat) (h:i<1000000000000):wrap64 ((i:Int)+1)=((i+1:Nat):Int):=by unfold wrap64;omega
theorem i64_succ (i:Nat) (h:i<1000000000000):IntKind.i64.wrap ((i:Int)+1)=((i+1:Nat):Int):=by rw[IntKind.wrap_i64];omega
theorem ib_of {i n r:Nat} (h:i+(r+1)=8*n) (hn:n<=100000):i<1000000000000/\8*n-r=i+1:=by omega
theorem and_u8 (a:Nat) (ha:a<256):bits .and .u8 (a:Int) 1=((a % 2:Nat):Int):=by
 show IntKind.u8.wrap ((BitVec.ofInt 8 (a:Int)&&& BitVec.ofInt 8 1).toNat:Int)=_;have h1:(BitVec.ofInt 8 (a:Int)).toNat=a:=by rw[BitVec.ofInt_natCast,BitVec.toNat_ofNat];exact Nat.mod_eq_of_lt (by omega)
 have h2:(BitVec.ofInt 8 1).toNat=1:=rfl;rw[BitVec.toNat_and,h1,h2,Nat.and_one_is_mod];have h3:a % 2<2:=Nat.mod_lt _ (by omega);generalize a % 2=y at*
 simp[IntKind.wrap,IntKind.bits,IntKind.signed];omega
theorem or_u32 (c b:Nat) (hc:c<2147483648) (hb:b<2):bits .or .u32 ((2*c:Nat):Int) (b:Int)=((2*c+b:Nat):Int):=by
 show IntKind.u32.wrap ((BitVec.ofInt 32 ((2*c:Nat):Int)|||BitVec.ofInt 32 (b:Int)).toNat:Int)=_;have h1:(BitVec.ofInt 32 ((2*c:Nat):Int)).toNat=2*c:=by rw[BitVec.ofInt_natCast,BitVec.toNat_ofNat];exact Nat.mod_eq_of_lt (by omega)
 have h2:(BitVec.ofInt 32 (b:Int)).toNat=b:=by rw[BitVec.ofInt_natCast,BitVec.toNat_ofNat];exact Nat.mod_eq_of_lt (by omega)
 have h3:2*c|||b=2*c+b:=by
  have:=Nat.shiftLeft_add_eq_or_of_lt (i:=1) (b:=b) (by omega) c;rw[Nat.shiftLeft_eq]at this;rw[show 2*c=c*2^1 by omega];exact this.symm
 rw[BitVec.toNat_or,h1,h2,h3];simp[IntKind.wrap,IntKind.bits,IntKind.signed];omega
theorem bit_off (code x d:Nat) (hc:code<1073741824) (hx:x<256) (bt:Bool) (hb:bt.toNat=x/2^d % 2):
 bits .or .u32 ((code:Int)*2 % 4294967296) (bits .and .u8 ((x:Int)/2^d) 1 % 4294967296)=((2*code+bt.toNat:Nat):Int):=by
 have h0:((x:Int)/2^d)=((x/2^d:Nat):Int):=by
  rw[Int.natCast_ediv]
  congr 1
 have h1:x/2^d<256:=Nat.lt_of_le_of_lt (Nat.div_le_self _ _) hx;rw[h0,and_u8 _ h1,<-hb];have h2:bt.toNat<2:=Bool.toNat_lt bt;have h3:((bt.toNat:Nat):Int) % 4294967296=((bt.toNat:Nat):Int):=by omega
 have h4:(code:Int)*2 % 4294967296=((2*code:Nat):Int):=by omega
 rw[h3,h4,or_u32 code _ (by omega) h2]
theorem bl_at:∀(n c i:Nat),i<n->(bl n c)[i]?=some (c.testBit (n-1-i))
 |0,c,i,h=>by omega
 |n+1,c,0,h=>by simp[bl]
 |n+1,c,i+1,h=>by
  rw[bl,List.getElem?_cons_succ,bl_at n c i (by omega)]
  congr 2
  omega
theorem bl_len:∀(n c:Nat),(bl n c).length=n
 |0,c=>rfl
 |n+1,c=>by rw[bl,List.length_cons,bl_len n c]
theorem unpack_len:∀l:List UInt8,(unpack l).length=8*l.length
 |[]=>rfl
 |x::l=>by
  have h:=unpack_len l;unfold unpack at*
  rw[List.flatMap_cons,List.length_append,h,bb,bl_len,List.length_cons];omega
theorem unpack_at:∀(l:List UInt8) (i:Nat),i<8*l.length->(unpack l)[i]?=some ((l.getD (i/8) 0).toNat.testBit (7-i % 8))
 |[],i,h=>by simp at h
 |x::l,i,h=>by
  have e:unpack (x::l)=bb x++unpack l:=List.flatMap_cons ..;rw[e];by_cases h8:i<8
  · rw[List.getElem?_append_left (by rw[bb,bl_len];exact h8),bb,bl_at 8 _ i h8]
    have:i/8=0:=by omega
    rw[this,List.getD_cons_zero]
    congr 2
    omega
  · rw[List.getElem?_append_right (by rw[bb,bl_len];omega),bb,bl_len,unpack_at l (i-8) (by simp at h;omega)]
    have h1:i/8=(i-8)/8+1:=by omega
    have h2:(i-8) % 8=i % 8:=by omega
    rw[h1,List.getD_cons_succ,h2]
structure MM (w W:World) (gm ga code nb:Nat) (out:List Nat) (ov:Value):Prop where
 km:KM Tryz.prog 324 W gm 257 (kf 257)
 at_:Blk W ga 324 #[.int .u32 (code:Nat),.int .i64 (nb:Nat)]
 ow:Ow W w.heap.size 5 ov out.length (out.map UInt8.ofNat)
 low:Below w.heap.size w W
 gm1:w.heap.size<=gm
 ga1:w.heap.size<=ga
 hne:gm≠ga
 om:∀g,ov.ownBlock=some g->g≠gm/\g≠ga
structure HP (l:List UInt8) (n code nb:Nat) (rest:List Bool) (out:List Nat):Prop where
 cb:code<2^nb
 nb30:nb<30
 len:rest.length<=8*n
 tail:(unpack l).drop (8*n-rest.length)=rest
 goes:(dec code nb rest).map (out++·)=dec 0 0 (unpack l)
 few:out.length+rest.length<=8*n
section
variable {w W W':World} {gm ga code nb:Nat} {out:List Nat} {ov:Value}
theorem MM.put2 (h:MM w W gm ga code nb out ov) (c' n':Nat):MM w ((W.setCell ⟨ga,0,none⟩ (.int .u32 (c':Nat))).setCell ⟨ga,1,none⟩ (.int .i64 (n':Nat))) gm ga c' n' out ov:=by
 have hg:W.grownBy ((W.setCell ⟨ga,0,none⟩ (.int .u32 (c':Nat))).setCell ⟨ga,1,none⟩ (.int .i64 (n':Nat))) (some ga):=
  grown_setCell (grown_setCell (World.grownBy.refl W (some ga)) 0 _) 1 _
 refine⟨h.km.kept hg (by simp[h.hne]),?_,h.ow.grown hg (.inr λe=>(h.om ga e).2 rfl),h.low.grown hg h.low.size (λj e=>by injection e with e;have:=h.ga1;omega),h.gm1,h.ga1,h.hne,h.om⟩;have h1:=(h.at_.put 0 (.int .u32 (c':Nat))).put 1 (.int .i64 (n':Nat));simp only[List.setIfInBounds_toArray,List.set_cons_zero,List.set_cons_succ]at h1;exact h1
theorem MM.drew (h:MM w W gm ga code nb out ov):MM w W.drew gm ga code nb out ov:=⟨h.km.kept (grown_drewN (World.grownBy.refl W none) 1) (by simp),h.at_,h.ow,bdN h.low 1,h.gm1,h.ga1,h.hne,h.om⟩
theorem MM.alloc (h:MM w W gm ga code nb out ov) (o:Obj):MM w (W.alloc o) gm ga code nb out ov:=⟨h.km.alloc o,h.at_.alloc o,h.ow.alloc o,h.low.alloc h.low.size o,h.gm1,h.ga1,h.hne,h.om⟩
theorem MM.app (h:MM w W gm ga code nb out ov) {v:Value} {x:Nat} (ho:Ow W' w.heap.size 5 v (out.length+1) (out.map UInt8.ofNat++[UInt8.ofNat x])) (hg:W.grownBy W' ov.ownBlock) (hv:v.ownBlock=ov.ownBlock\/v.ownBlock=some W.heap.size):MM w W' gm ga code nb (out++[x]) v:=by
 have h1:=h.km.lt;have h2:=h.at_.lt;refine⟨h.km.kept hg (λe=>(h.om gm e.symm).1 rfl),h.at_.grown hg (λe=>(h.om ga e.symm).2 rfl),?_,h.low.grown hg h.low.size (λj e=>(h.ow.lt e).2),h.gm1,h.ga1,h.hne,λg e=>?_⟩
 · rw[List.map_append,List.length_append]
   exact ho
 · rcases hv with hv|hv
   · exact h.om g (hv▸e)
   · rw[hv]at e
     injection e with e
     omega
end
section
variable {l:List UInt8} {n code nb:Nat} {bt:Bool} {rest:List Bool} {out:List Nat}
theorem HP.tail1 (h:HP l n code nb (bt::rest) out):(unpack l).drop (8*n-rest.length)=rest:=by
 have h1:=congrArg (List.drop 1) h.tail;rw[List.drop_drop]at h1;have h2:=h.len;simp only[List.length_cons]at h1 h2;rw[show 8*n-(rest.length+1)+1=8*n-rest.length by omega]at h1;exact h1
theorem bt_lt {c n:Nat} (bt:Bool) (h:c<2^n):2*c+bt.toNat<2^(n+1):=by
 have:=Bool.toNat_lt bt;rw[Nat.pow_succ];omega
theorem HP.miss (h:HP l n code nb (bt::rest) out) (hk:Hf.look (2*code+bt.toNat) (nb+1)=none) (hn:nb+1<30):HP l n (2*code+bt.toNat) (nb+1) rest out:=by
 have h1:=h.goes;have h2:Nat.blt (nb+1) 30=true:=Nat.ble_eq_true_of_le hn;rw[dec,hk]at h1;simp only[h2,cond_true]at h1;exact⟨bt_lt bt h.cb,hn,by have:=h.len;simp at this;omega,h.tail1,h1,by have:=h.few;simp at this;omega⟩
theorem HP.long (h:HP l n code nb (bt::rest) out) (hk:Hf.look (2*code+bt.toNat) (nb+1)=none) (hn:¬nb+1<30):Hk.decH l=none:=by
 have h1:=h.goes;have h2:Nat.blt (nb+1) 30=false:=by
  cases hq:Nat.blt (nb+1) 30 with
  |false=>rfl
  |true=>exact absurd (Nat.le_of_ble_eq_true hq) hn
 rw[dec,hk]at h1;simp only[h2,cond_false,Option.map_none]at h1;unfold Hk.decH;rw[<-h1]
 rfl
theorem HP.eos (h:HP l n code nb (bt::rest) out) (hk:Hf.look (2*code+bt.toNat) (nb+1)=some 256):Hk.decH l=none:=by
 have h1:=h.goes;rw[dec,hk]at h1;simp only[show Nat.beq 256 256=true from rfl,cond_true,Option.map_none]at h1;unfold Hk.decH;rw[<-h1]
 rfl
theorem HP.hit (h:HP l n code nb (bt::rest) out) {s:Nat} (hk:Hf.look (2*code+bt.toNat) (nb+1)=some s) (hs:s≠256):HP l n 0 0 rest (out++[s]):=by
 have h1:=h.goes;have h6:Nat.beq s 256=false:=by
  cases hq:Nat.beq s 256 with
  |false=>rfl
  |true=>exact absurd (Nat.eq_of_beq_eq_true hq) hs
 rw[dec,hk]at h1;simp only[h6,cond_false,Option.map_map]at h1;refine⟨by decide,by decide,by have:=h.len;simp at this;omega,h.tail1,?_,by have:=h.few;simp at this ⊢;omega⟩;rw[<-h1]
 congr 1
 funext x
 simp
theorem HP.ends (h:HP l n code nb [] out) (hb:nb<8) (hc:code=2^nb-1):Hk.decH l=some (out.map UInt8.ofNat):=by
 have h1:=h.goes;have h2:Nat.blt nb 8=true:=Nat.ble_eq_true_of_le hb;have h3:Nat.beq code (2^nb-1)=true:=by rw[hc];exact Nat.beq_refl _
 rw[dec,h2,h3]at h1;unfold Hk.decH;rw[<-h1];simp
theorem HP.bad (h:HP l n code nb [] out) (hb:¬(nb<8/\code=2^nb-1)):Hk.decH l=none:=by
 have h1:=h.goes;have h2:(Nat.blt nb 8&&Nat.beq code (2^nb-1))=false:=by
  rw[Bool.eq_false_iff];intro h;rw[Bool.and_eq_true]at h;exact hb ⟨Nat.le_of_ble_eq_true h.1,Nat.eq_of_beq_eq_true h.2⟩
 rw[dec,h2]at h1;unfold Hk.decH;rw[<-h1]
 rfl
end
structure HJ (w:World) (l:List UInt8) (A:Option Addr) (n c:Nat) (a:Act) (W:World) (gm ga code nb:Nat) (rest:List Bool) (out:List Nat) (ov:Value):Prop where
 ha:HA a (.slice A n c) (.map (some gm)) ov (.pointer (some ⟨ga,0,none⟩)) (.int .i64 (8*n-rest.length:Nat))
 m:MM w W gm ga code nb out ov
 p:HP l n code nb rest out
def HL (w:World) (l:List UInt8) (A:Option Addr) (n c:Nat) (lb:Nat) (a:Act) (W:World):Prop:=
 (lb=1/\∃gm ga code nb rest out ov,HJ w l A n c a W gm ga code nb rest out ov)\/(lb=0/\∃gm ga code nb out ov,HJ w l A n c a W gm ga code nb [] out ov)\/
 (lb=2/\a.defers=[]/\a.tmps.size=90/\Hk.decH l=none/\Below w.heap.size w W)
def muL (n lb:Nat) (a:Act):Nat:=if lb=1 then 2+(8*n-(intOf (a.tmps.getD 11 undef)).toNat)else if lb=0 then 1 else 0
def HdPost (w:World) (l:List UInt8) (ev:Value) (e:Ending) (w':World):Prop:=
 Below w.heap.size w w'/\((∃s,Hk.decH l=some s/\e= .returned (.tuple #[.string ⟨s.toArray⟩,.nilIface]))\/(Hk.decH l=none/\e= .returned (.tuple #[.string ⟨#[]⟩,ev])))
theorem hdec_any (A:Option Addr) (n c B:Nat) (l:List UInt8) (ev:Value) (w:World) (hr:Rd w B A n l) (hB:B<=w.heap.size) (hc:n<=c) (hn:n<=100000) (he:w.cell? ⟨16,0,none⟩=some ev) (hg:16<w.heap.size):
 Calls Tryz.prog 275 #[.slice A n c] w (HdPost w l ev):=by
 have HF:=λW=>run_mkMap (P:=Tryz.prog) 322 W;have H3:=hid (KM.made Tryz.prog 324 w);have H4:=hid ((Below.refl w.heap.size w).alloc (Nat.le_refl _) (.map #[] 0));have HC:=hid (λW=>hcodes_any W);go_enter Tryz.func275,Tryz.ntmps275;go_wp2_with fail;refine wp_scope_many (HL w l A n c) (λlb a _=>muL n lb a) ?_ ?_ ?_
 · rintro lb a W (⟨rfl,_⟩|⟨rfl,_⟩|⟨rfl,_⟩)<;>exact⟨_,rfl⟩
 · intro hL
   go_upto_region 2 with fail;generalize w.alloc (.map #[] 0)=W0 at*
   go_wp2_with (first
    |(go_at_call 214
      with_reducible refine Calls.mono (HC.out _) ?_
      rintro e w1 ⟨v,rfl,hv,hb⟩;have HV:=hid hv;have Hh:=hid (H4.out.trans (hb.mono H4.out.size));have h4:=hid (H3.out.below hb H3.out.lt);clear hv hb)
    |fail)
   go_loopw [16] (λt wr=>∃k:Nat,k<=257/\t= .int .i64 (k:Int)/\Hid (KM Tryz.prog 324 wr w.heap.size k (kf k)/\Below w.heap.size w wr)) (λt _=>257-(intOf t).toNat)
   case atStart=>exact⟨0,by omega,rfl,hid ⟨h4.out.same (λv=>by rw[kf,dif_neg];rintro⟨s,hs,_⟩;omega),Hh.out⟩⟩
   case round=>
    obtain⟨k,hk,rfl,hh⟩:=hrel;by_cases hH:k<257
    · have HG:=idx_cod HV.out hH
      have Hi:=hid (λW=>hbits_any k hH W);have hZ:=sz_in hH;have hI:=nx_le (b:=sz k) (s:=k) (by omega);rw[<-cd_nx hH]at hI;obtain⟨kl,hD⟩:=word_key (cd k) (sz k) (by omega) (by omega);have HK:=hid hD;have HN:=hid (show k<maxLen by simp only[maxLen];omega);have Hj:=hid (kf_at (k:=k+1) (s:=k) (by omega) (by omega));have Hl:=hid (λ(v:Value) (h:v≠wd (cd k) (sz k))=>kf_other v hH h);have HH:wrap64 ((k:Int)+1)=((k+1:Nat):Int):=by unfold wrap64;omega
      have HO:(k:Int)<257:=by omega
      clear hZ hI hD;generalize cd k=x0 at*
      generalize sz k=x1 at*
      go_wp2_with (first
       |(go_at_call 213
         with_reducible refine Calls.mono (Hi.out _) ?_
         rintro e w2 ⟨rfl,hw⟩;subst w2)
       |(refine wpList_kput _ rfl (.tmp 25) (.tmp 28) (.tmp 29) 322 (.inr rfl) Tryz.underlying322 word_keyed w.heap.size k (kf k) rfl hh.out.1 HN.out (wd x0 x1) kl HK.out rfl (.int .i64 (k:Nat)) rfl (kf (k+1)) Hj.out Hl.out ?_
         intro w3 hm hg;have hf:=hid hm;have Hm:=hid (hh.out.2.grown hg hh.out.2.size (λj e=>by injection e with e;omega));clear hm hg)
       |fail)
      go_roundw
      case rel=>exact⟨k+1,by omega,by go_num,hid ⟨hf.out,Hm.out⟩⟩
      case measure=>simp[intOf];omega
    · obtain rfl:k=257:=by omega
      have H5:=hid hh.out.1;have hS:=hid hh.out.2;clear hh;go_wp2_with fail;go_step3;rename_i hK;refine hK _ _ (hL 1 _ rfl _ _ ?_);have H7:(unpack l).length=8*n:=by rw[unpack_len,hr.1]
      have HQ:=H5.out.lt;refine .inl ⟨rfl,w.heap.size,wr.heap.size,0,0,unpack l,[],.slice none 0 0,⟨rfl,rfl,rfl,rfl,rfl,rfl,?_⟩,⟨H5.out.alloc _,Blk.new wr _ _,⟨rfl,.inl ⟨rfl,rfl⟩⟩,hS.out.alloc hS.out.size _,Nat.le_refl _,hS.out.size,by omega,(λg e=>by cases e)⟩,⟨by decide,by decide,by omega,?_,?_,by simp;omega⟩⟩
      · show Value.int .i64 0=_
        rw[H7,Nat.sub_self];rfl
      · rw[H7,Nat.sub_self];rfl
      · cases dec 0 0 (unpack l)<;>simp
 · rintro lb r hl a W (⟨rfl,gm,ga,code,nb,rest,out,ov,hj⟩|⟨rfl,gm,ga,code,nb,out,ov,hj⟩|⟨rfl,hd,hz,h3,ht⟩)
   · injection hl with hl
     injection hl with _ hl
     subst hl;obtain⟨u,rfl⟩:=hj.ha.lit;have hE:=hid hj;have hT:=hr.below (hj.m.low.mono hB);obtain⟨i,hi⟩:∃i,8*n-rest.length=i:=⟨_,rfl⟩;have hJ:=hj.p.len;rw[hi];cases rest with
     |nil=>
      have h8:((i:Int)==8*(n:Int))=true:=by simp at hi;simp;omega
      have hz:=hE.out;clear hj hT;go_wp2;go_step3;refine⟨.inr (.inl ⟨rfl,gm,ga,code,nb,out,ov,⟨⟨rfl,rfl,rfl,rfl,rfl,rfl,?_⟩,hz.m,hz.p⟩⟩),?_⟩
      · rw[hi];rfl
      · simp[muL];omega
     |cons bt rest=>
      have hN:rest.length+1<=8*n:=hJ;have hO:i+(rest.length+1)=8*n:=by rw[<-hi];simp;omega
      have h8:((i:Int)==8*(n:Int))=false:=by simp;omega
      obtain⟨q,hq⟩:∃q,i/8=q:=⟨_,rfl⟩;obtain⟨r,hP⟩:∃r,i % 8=r:=⟨_,rfl⟩;have hU:q<n:=by omega
      obtain⟨ad,hA,HR,hcell⟩:=hT.at_ hU;subst hA;have H8:bt=(l.getD q 0).toNat.testBit (7-r):=by
       have h1:=unpack_at l i (by rw[hr.1];omega);rw[hq,hP]at h1;have h2:=congrArg (λz=>z[0]?) hj.p.tail;simp only[List.getElem?_drop,hi,Nat.add_zero,h1,List.getElem?_cons_zero]at h2;injection h2 with h2
       exact h2.symm
      have H9:bt.toNat=(l.getD q 0).toNat/2^(7-r) % 2:=by rw[H8,Nat.toNat_testBit]
      have Hn:=hid H9;have Ho:=hid (show(l.getD q 0).toNat<256 from(l.getD q 0).toNat_lt);generalize (l.getD q 0).toNat=x at*
      have g0:W.cell? ⟨ga,0,none⟩=some (.int .u32 (code:Nat)):=hj.m.at_.cell 0;have g1:W.cell? ⟨ga,1,none⟩=some (.int .i64 (nb:Nat)):=hj.m.at_.cell 1;have f0:=hj.m.at_.frozen 0;have f1:=hj.m.at_.frozen 1;have HT:=hj.m.at_.lt;have H0:((i:Int)).tdiv 8=(q:Int):=by rw[<-hq];rfl
      have H1:((i:Int)).tmod 8=(r:Int):=by rw[<-hP];rfl
      have Hp:(q:Int)<(n:Int):=by omega
      have Hq:wrap64 (7-(r:Int))=((7-r:Nat):Int):=by unfold wrap64;omega
      clear hj hT H9 H8 hJ hN;go_upto_region 12 with fail;go_region;all_goals
       have hv:=bit_off code x (7-r) (by have:=hE.out.p.cb;have:=hE.out.p.nb30;have h:=Nat.pow_le_pow_right (n:=2) (by omega) (show nb<=29 by omega);have:(2:Nat)^29=536870912:=rfl;omega) Ho.out bt Hn.out;have hw:wrap64 ((nb:Int)+1)=((nb+1:Nat):Int):=by have:=hE.out.p.nb30;unfold wrap64;omega
       rw[hv,hw];have h4:=hid (hE.out.m.put2 (2*code+bt.toNat) (nb+1)).drew;have h5:=hid hE.out.p;clear hv hw g0 g1 f0 f1 hcell H0 H1 Hp Hq;obtain⟨c1,hQ⟩:∃c1,2*code+bt.toNat=c1:=⟨_,rfl⟩;obtain⟨n1,hV⟩:∃n1,nb+1=n1:=⟨_,rfl⟩;have h6:=hid (And.intro hQ hV);rw[hQ,hV]at h4 ⊢;have ho:c1<4294967296:=by have h0:=bt_lt bt h5.out.cb;rw[hQ]at h0;have h:=Nat.pow_le_pow_right (n:=2) (by omega) (show nb+1<=30 by have:=h5.out.nb30;omega);have:(2:Nat)^30=1073741824:=rfl;omega
       have hu:n1<=1000:=by have:=h5.out.nb30;omega
       obtain⟨kl,hD⟩:=word_key c1 n1 ho hu;clear hQ hV;generalize (((W.setCell ⟨ga,0,none⟩ (.int .u32 (c1:Nat))).setCell ⟨ga,1,none⟩ (.int .i64 (n1:Nat)))).drew=W1 at*
       have hF:=h4.out.km.look_ok Tryz.underlying322 word_keyed (z:=.int .i64 0) (by kernel_rfl) hD;rw[kf_look]at hF;simp only[wd]at hF;have Hs:=hid (show W1.cell? ⟨16,0,none⟩=some ev from(World.cell?_of_block (a:=⟨16,0,none⟩) (h4.out.low.block _ hg)).trans he);have q0:W1.cell? ⟨ga,0,none⟩=some (.int .u32 (c1:Nat)):=h4.out.at_.cell 0;have q1:W1.cell? ⟨ga,1,none⟩=some (.int .i64 (n1:Nat)):=h4.out.at_.cell 1;have hW:=(ib_of hO hn).1;have HU:=w64_succ i hW;have HW:=i64_succ i hW;clear hW;have HI:=hid (ib_of hO hn).2;cases hk:Hf.look c1 n1 with
       |none=>
        rw[hk]at hF;simp only[Option.map_none,Option.getD_none,Option.isSome_none]at hF;have HK:=hid hk;clear hk hD ho hu hO h8 hU hq hP hi;by_cases Ha:n1<30
        · have H2:(n1:Int)<30:=by omega
          go_wp2_with fail;go_step3;have hR:=h5.out.miss (by rw[h6.out.1,h6.out.2];exact HK.out) (by rw[h6.out.2];exact Ha);rw[h6.out.1,h6.out.2]at hR;refine⟨.inl ⟨rfl,gm,ga,c1,n1,rest,out,ov,⟨⟨rfl,rfl,rfl,rfl,rfl,rfl,?_⟩,h4.out,hR⟩⟩,?_⟩
          · rw[HI.out];rfl
          · simp[muL,intOf];have:=HI.out;have:=h5.out.len;simp at this;omega
        · have H2:¬(n1:Int)<30:=by omega
          have h3:=h5.out.long (by rw[h6.out.1,h6.out.2];exact HK.out) (by rw[h6.out.2];exact Ha);have h7:=hid h3;have e1:=Hs.out;clear h3;go_wp2_with fail;apply wp_label;go_wp2_with fail;go_quiet (fail);go_wp2_with fail;go_ret2;exact⟨bdN h4.out.low _,.inr ⟨h7.out,rfl⟩⟩
       |some s=>
        rw[hk]at hF;simp only[Option.map_some,Option.getD_some,Option.isSome_some]at hF;have HK:=hid hk;have HS:=hid (look_is hk).1;clear hk hD ho hu hO h8 hU hq hP hi;by_cases hC:s=256
        · subst hC
          have h3:=h5.out.eos (by rw[h6.out.1,h6.out.2];exact HK.out);have h7:=hid h3;clear h3;go_wp2_with fail;go_step3;exact⟨.inr (.inr ⟨rfl,rfl,rfl,h7.out,h4.out.low⟩),by simp[muL];omega⟩
        · have hs:s<256:=by have:=HS.out;omega
          have HX:((s:Int)==256)=false:=by simp;omega
          have HY:¬(s:Int)=256:=by omega
          have HZ:IntKind.u8.wrap (s:Int)=(s:Int):=by simp[IntKind.wrap,IntKind.bits,IntKind.signed];omega
          have Ht:=hid (show(s:Int)=((UInt8.ofNat s).toNat:Int)by rw[Hk.toNat_of s hs]);have Hu:=hid hC;clear hs hC;obtain⟨Ao,co,hX,_,_⟩:=h4.out.ow.form;subst hX;have hY:=hid (h4.out.alloc (.cells #[.int .u8 (s:Int)] 5));have Hv:=hid (Rd.one W1 (s:Int) (UInt8.ofNat s) 5 Ht.out);have Hx:=hid (show out.length+1<=140737488355328 by have:=h5.out.few;simp at this;omega);go_wp2_with (first
           |(at_builtin
             refine wpList_app_any _ byteP rfl (.tmp 66) (.tmp 69) rfl w.heap.size (.slice Ao out.length co) out.length (out.map UInt8.ofNat) rfl hY.out.ow (W1.heap.size+1) (some ⟨W1.heap.size,0,none⟩) 1 1 [UInt8.ofNat s] rfl Hv.out Hx.out hY.out.low.size ?_;intro A3 c3 w3 Hb Hc He _ _;have hf:=hid (hY.out.app Hb Hc He);clear Hb Hc He q0 q1;have q0:w3.cell? ⟨ga,0,none⟩=some (.int .u32 (c1:Nat)):=hf.out.at_.cell 0;have q1:w3.cell? ⟨ga,1,none⟩=some (.int .i64 (n1:Nat)):=hf.out.at_.cell 1;have p0:=hf.out.at_.frozen 0;have p1:=hf.out.at_.frozen 1;have HD:=hf.out.at_.lt)
           |fail)
          go_step3;have hR:=h5.out.hit (by rw[h6.out.1,h6.out.2];exact HK.out) Hu.out;have Hy:=hf.out.put2 0 0;refine⟨.inl ⟨rfl,gm,ga,0,0,rest,out++[s],.slice A3 (out.length+1) c3,⟨⟨rfl,rfl,rfl,rfl,rfl,rfl,?_⟩,Hy,hR⟩⟩,?_⟩
          · rw[HI.out];rfl
          · simp[muL,intOf];have:=HI.out;have:=h5.out.len;simp at this;omega
   · injection hl with hl
     injection hl with _ hl
     subst hl;obtain⟨u,rfl⟩:=hj.ha.lit;have h4:=hid hj.m;have h5:=hid hj.p;have q0:W.cell? ⟨ga,0,none⟩=some (.int .u32 (code:Nat)):=hj.m.at_.cell 0;have q1:W.cell? ⟨ga,1,none⟩=some (.int .i64 (nb:Nat)):=hj.m.at_.cell 1;obtain⟨Ao,co,hX,_,_,Hg⟩:=hj.m.ow.form;have g2:=λk=>run_str (P:=Tryz.prog) (c:=co) 22 9 5 Tryz.underlying22 Tryz.underlying5 Tryz.underlying9 (Hg.drewN k);subst hX;have ho:=hj.p.cb;clear hj Hg;by_cases h8:nb<8
     · by_cases hG:code=2^nb-1
       · have HE:=hid (h5.out.ends h8 hG)
         have:nb=0\/nb=1\/nb=2\/nb=3\/nb=4\/nb=5\/nb=6\/nb=7:=by omega
         subst hG;rcases this with rfl|rfl|rfl|rfl|rfl|rfl|rfl|rfl
         all_goals
          clear h8 ho;go_wp2_with fail;go_quiet (fail);go_wp2_with fail;go_ret2;exact⟨bdN h4.out.low _,.inl ⟨_,HE.out,rfl⟩⟩
       · have h3:=h5.out.bad (λh=>hG h.2)
         have h7:=hid h3;have:nb=0\/nb=1\/nb=2\/nb=3\/nb=4\/nb=5\/nb=6\/nb=7:=by omega
         clear h3;rcases this with rfl|rfl|rfl|rfl|rfl|rfl|rfl|rfl
         · exact absurd (show code=0 by have:=h5.out.cb;omega) hG
         all_goals
          simp only[Nat.reducePow,Nat.reduceSub]at hG;clear h8 ho;have g3:decide (code=_)=false:=decide_eq_false hG;go_wp2_with fail;go_quiet (fail);go_wp2_with fail;go_step3;exact⟨.inr (.inr ⟨rfl,rfl,rfl,h7.out,bdN h4.out.low _⟩),by simp[muL]⟩
     · have h3:=h5.out.bad (λh=>h8 h.1)
       have h7:=hid h3;have h9:((nb:Int)<8)=False:=by simp;omega
       have g4:(8:Int)<=(nb:Int):=by omega
       have g5:decide ((8:Int)<=(nb:Int))=true:=by simp;omega
       clear h3 h8 ho;go_wp2_with fail;go_quiet (fail);go_wp2_with fail;go_step3;exact⟨.inr (.inr ⟨rfl,rfl,rfl,h7.out,bdN h4.out.low _⟩),by simp[muL]⟩
   · injection hl with hl
     injection hl with _ hl
     subst hl;have h7:=hid h3;have HB:=hid ht;have e1:W.cell? ⟨16,0,none⟩=some ev:=(World.cell?_of_block (a:=⟨16,0,none⟩) (ht.block _ hg)).trans he;obtain⟨u,rfl⟩:=lit0 hd hz;clear h3 ht;go_wp2_with fail;go_quiet (fail);go_wp2_with fail;go_ret2;exact⟨bdN HB.out _,.inr ⟨h7.out,rfl⟩⟩
end Go.Proofs.YtkpppjhbmnfmkaaGreatDoor
end

section
set_option maxHeartbeats 4000000
set_option maxRecDepth 100000
namespace Go.Proofs.YtkpppjhbmnfmkaaGreatDoor
open Lib (hid)
open Go.RowKit Go.Own Go.Own.Fr
attribute [local go_sem] Oper.semAt_some
theorem arr66 (t:Array Value) (h:t.size=66):t=(t.getD 0 undef::t.getD 1 undef::t.getD 2 undef::t.getD 3 undef::t.getD 4 undef::t.getD 5 undef::t.getD 6 undef::t.getD 7 undef::t.getD 8 undef::t.getD 9 undef::t.getD 10 undef::t.getD 11 undef::t.getD 12 undef::t.getD 13 undef::t.getD 14 undef::t.getD 15 undef::t.getD 16 undef::t.getD 17 undef::t.getD 18 undef::t.getD 19 undef::t.getD 20 undef::t.getD 21 undef::t.getD 22 undef::t.getD 23 undef::t.getD 24 undef::t.getD 25 undef::t.getD 26 undef::t.getD 27 undef::t.getD 28 undef::t.getD 29 undef::t.getD 30 undef::t.getD 31 undef::t.getD 32 undef::t.getD 33 undef::t.getD 34 undef::t.getD 35 undef::t.getD 36 undef::t.getD 37 undef::t.getD 38 undef::t.getD 39 undef::t.getD 40 undef::t.getD 41 undef::t.getD 42 undef::t.getD 43 undef::t.getD 44 undef::t.getD 45 undef::t.getD 46 undef::t.getD 47 undef::t.getD 48 undef::t.getD 49 undef::t.getD 50 undef::t.getD 51 undef::t.getD 52 undef::t.getD 53 undef::t.getD 54 undef::t.getD 55 undef::t.getD 56 undef::t.getD 57 undef::t.getD 58 undef::t.getD 59 undef::t.getD 60 undef::t.getD 61 undef::t.getD 62 undef::t.getD 63 undef::t.getD 64 undef::t.getD 65 undef::[]).toArray:=by
 exact arr_gen t 66 h
structure IA (a:Act) (v0 v8 v9:Value):Prop where
 dfr:a.defers=[]
 size:a.tmps.size=66
 s0:a.tmps.getD 0 undef=v0
 s8:a.tmps.getD 8 undef=v8
 s9:a.tmps.getD 9 undef=v9
theorem IA.lit {a:Act} {v0 v8 v9:Value} (h:IA a v0 v8 v9):∃u:Nat->Value,a={tmps:=(v0::u 1::u 2::u 3::u 4::u 5::u 6::u 7::v8::v9::u 10::u 11::u 12::u 13::u 14::u 15::u 16::u 17::u 18::u 19::u 20::u 21::u 22::u 23::u 24::u 25::u 26::u 27::u 28::u 29::u 30::u 31::u 32::u 33::u 34::u 35::u 36::u 37::u 38::u 39::u 40::u 41::u 42::u 43::u 44::u 45::u 46::u 47::u 48::u 49::u 50::u 51::u 52::u 53::u 54::u 55::u 56::u 57::u 58::u 59::u 60::u 61::u 62::u 63::u 64::u 65::[]).toArray,defers:=[]}:=by
 refine⟨λk=>a.tmps.getD k undef,?_⟩;obtain⟨t,df⟩:=a;obtain⟨h1,hz,e0,e8,e9⟩:=h;have h2:=arr66 t hz;simp only at h1 e0 e8 e9;rw[h1]
 congr 1
 rw[e0,e8,e9]at h2;exact h2
theorem lit66 {a:Act} (h1:a.defers=[]) (hz:a.tmps.size=66):∃u:Nat->Value,a={tmps:=(u 0::u 1::u 2::u 3::u 4::u 5::u 6::u 7::u 8::u 9::u 10::u 11::u 12::u 13::u 14::u 15::u 16::u 17::u 18::u 19::u 20::u 21::u 22::u 23::u 24::u 25::u 26::u 27::u 28::u 29::u 30::u 31::u 32::u 33::u 34::u 35::u 36::u 37::u 38::u 39::u 40::u 41::u 42::u 43::u 44::u 45::u 46::u 47::u 48::u 49::u 50::u 51::u 52::u 53::u 54::u 55::u 56::u 57::u 58::u 59::u 60::u 61::u 62::u 63::u 64::u 65::[]).toArray,defers:=[]}:=by
 refine⟨λk=>a.tmps.getD k undef,?_⟩;obtain⟨t,df⟩:=a;have h2:=arr66 t hz;simp only at h1;rw[h1]
 congr 1
theorem and_u8m (a:Nat) (ha:a<256):bits .and .u8 (a:Int) 127=((a % 128:Nat):Int):=by
 show IntKind.u8.wrap ((BitVec.ofInt 8 (a:Int)&&& BitVec.ofInt 8 127).toNat:Int)=_;have h1:(BitVec.ofInt 8 (a:Int)).toNat=a:=by rw[BitVec.ofInt_natCast,BitVec.toNat_ofNat];exact Nat.mod_eq_of_lt (by omega)
 have h2:(BitVec.ofInt 8 127).toNat=127:=rfl;have h3:a&&& 127=a % 128:=Nat.and_two_pow_sub_one_eq_mod a 7;rw[BitVec.toNat_and,h1,h2,h3];have h4:a % 128<128:=Nat.mod_lt _ (by omega);generalize a % 128=y at*
 simp[IntKind.wrap,IntKind.bits,IntKind.signed];omega
theorem shl7 (P:Program) (y i:Nat) (hy:y<=127) (h1:1<=i) (h5:i<=5) (W:World):(Op.shift .shl .i64 (y:Int) .i64 (wrap64 (7*wrap64 ((i:Int)-1)))).run P W= .ok (.int .i64 ((y*2^(7*(i-1)):Nat):Int)) W:=by
 have e1:wrap64 ((i:Int)-1)=((i-1:Nat):Int):=by unfold wrap64;omega
 have e2:wrap64 (7*((i-1:Nat):Int))=((7*(i-1):Nat):Int):=by unfold wrap64;omega
 have hd:7*(i-1)<=28:=by omega
 rw[e1,e2];generalize 7*(i-1)=d at*
 have hp:y*2^d<=127*268435456:=Nat.mul_le_mul hy (Nat.le_trans (Nat.pow_le_pow_right (by omega) hd) (by decide));have hm:min (d:Int).toNat IntKind.i64.bits=d:=by show min (d:Int).toNat 64=d;omega
 have hc:(y:Int)*2^d=((y*2^d:Nat):Int):=by rw[Int.natCast_mul];congr 1
 unfold Op.shift;rw[if_neg (by omega)];simp only[hm,hc];show(pure (Value.int .i64 (IntKind.i64.wrap ((y*2^d:Nat):Int))):Sem Value).run P W=_;generalize y*2^d=z at*
 have hz:IntKind.i64.wrap (z:Int)=(z:Int):=by rw[IntKind.wrap_i64];omega
 rw[hz]
 rfl
theorem zbound {x acc i:Nat} (hx:x<=127) (h1:1<=i) (h5:i<=5) (ha:acc<=255*2^(7*(i-1))):acc+x*2^(7*(i-1))<=200000000000:=by
 have hp:2^(7*(i-1))<=268435456:=Nat.le_trans (Nat.pow_le_pow_right (by omega) (show 7*(i-1)<=28 by omega)) (by decide);generalize 2^(7*(i-1))=p at*
 have:=Nat.mul_le_mul hx hp;have:=Nat.mul_le_mul (Nat.le_refl 255) hp;omega
theorem accbound {y acc i:Nat} (hy:y<=127) (h1:1<=i) (ha:acc<=255*2^(7*(i-1))):acc+y*2^(7*(i-1))<=255*2^(7*(i+1-1)):=by
 have e:7*(i+1-1)=7*(i-1)+7:=by omega
 rw[e,Nat.pow_add];generalize 2^(7*(i-1))=p at*
 have:=Nat.mul_le_mul hy (Nat.le_refl p);have e2:(2:Nat)^7=128:=rfl;rw[e2];omega
theorem w64_self (i:Nat) (h:i<1000000000000):wrap64 (i:Int)=(i:Int):=by unfold wrap64;omega
theorem w64_pred (i:Nat) (h:i<1000000000000):wrap64 ((i:Int)+1-1)=(i:Int):=by unfold wrap64;omega
theorem w64_add (a z:Nat) (h:a+z<=200000000000):wrap64 ((a:Int)+(z:Int))=((a+z:Nat):Int):=by unfold wrap64;omega
theorem sub_back {a b:Nat} (h:b<=a):a-(a-b)=b:=by omega
theorem xm_sub {x:Nat} (h:¬x<128) (h2:x<256):x % 128=x-128:=by omega
theorem y_127 {x:Nat} (h2:x<256):x-128<=127:=by omega
theorem ib_big {i n:Nat} (h:i<n) (hn:n<=1000000):i<1000000000000:=by omega
theorem w64_127 {y:Nat} (h:y<=127):wrap64 (y:Int)=(y:Int):=by unfold wrap64;omega
theorem drewN_post (w:World) (k m:Nat):∃n,(w.drewN k).drewN m=w.drewN n:=⟨_,World.drewN_drewN ..⟩
def IntPost (bits:Nat) (l:List UInt8) (w:World) (e:Ending) (w':World):Prop:=
 (∃n,w'=w.drewN n)/\((∃i r,Hk.intP bits l=some (i,r)/\e= .returned (.tuple #[.int .i64 (i:Nat),.int .i64 (l.length-r.length:Nat),.nilIface]))\/(Hk.intP bits l=none/\∃a,e= .returned (.tuple #[.int .i64 0,.int .i64 0,ev a])))
def IL (bits:Nat) (l:List UInt8) (A:Option Addr) (n c:Nat) (w:World) (lb:Nat) (a:Act) (W:World):Prop:=
 (lb=1/\∃acc i:Nat,IA a (.slice A n c) (.int .i64 (acc:Nat)) (.int .i64 (i:Nat))/\1<=i/\i<=6/\i<=n/\acc<=255*2^(7*(i-1))/\Hk.intMore (6-i) (7*(i-1)) acc (l.drop i)=Hk.intP bits l/\∃k,W=w.drewN k)\/
 (lb=0/\a.defers=[]/\a.tmps.size=66/\Hk.intP bits l=none/\∃k,W=w.drewN k)
def muI (lb:Nat) (a:Act):Nat:=if lb=1 then 10-(intOf (a.tmps.getD 9 undef)).toNat else 0
theorem hint_any (bt:Nat) (A:Option Addr) (n c B:Nat) (l:List UInt8) (w:World) (hG:bt=4\/bt=5\/bt=6\/bt=7) (hr:Rd w B A n l) (hc:n<=c) (hn:n<=1000000) (hE:HpE w):
 Calls Tryz.prog 256 #[.slice A n c,.int .i64 (bt:Nat)] w (IntPost bt l w):=by
 obtain⟨el,hR⟩:=hE.long;obtain⟨ee,hS⟩:=hE.end_;have HR:=hid hr;have hl:=hr.1;have hT:=hid (λk=>(show(w.drewN k).cell? ⟨5,0,none⟩=some (ev el)from hR));have hU:=hid (λk=>(show(w.drewN k).cell? ⟨10,0,none⟩=some (ev ee)from hS));have HN:=hid (show n<=1000000/\n<=c/\l.length=n from⟨hn,hc,hl⟩);clear hE hr hR hS hn hc hl;go_enter Tryz.func256,Tryz.ntmps256;go_wp2_with fail;refine wp_scope_many (IL bt l A n c w) (λlb a _=>muI lb a) ?_ ?_ ?_
 · rintro lb a W (⟨rfl,_⟩|⟨rfl,_⟩)<;>exact⟨_,rfl⟩
 · intro h9
   have H1:=hid h9;clear h9;cases n with
   |zero=>
    have H2:l=[]:=List.eq_nil_of_length_eq_zero HN.out.2.2;subst H2;have q0:w.cell? ⟨10,0,none⟩=some (ev ee):=hU.out 0;rcases hG with rfl|rfl|rfl|rfl
    all_goals
     go_wp2_with fail;go_quiet (fail);go_wp2_with fail;go_ret3;exact⟨⟨_,rfl⟩,.inr ⟨rfl,_,rfl⟩⟩
   |succ n=>
    obtain⟨ad,hA,H3,hcell⟩:=HR.out.at_ (k:=0) (Nat.succ_pos n);subst hA;cases l with
    |nil=>have:=HN.out.2.2;simp at this
    |cons b l=>
     have hcell:w.cell? ad=some (.int .u8 (b.toNat:Int)):=hcell;have hV:b.toNat<256:=b.toNat_lt;obtain⟨x,hx⟩:∃x,b.toNat=x:=⟨_,rfl⟩;rw[hx]at hcell hV;have HX:=hid (And.intro hx hV);have h8:∀m:Nat,m<256->bits .and .i64 (x:Int) (m:Int)=((x&&& m:Nat):Int):=λm hm=>and_nat x m (by omega) (by omega);obtain⟨y,hy⟩:∃y,x % 2^bt=y:=⟨_,rfl⟩;have hW:y<=255:=by rw[<-hy];exact Nat.le_trans (Nat.mod_le _ _) (by omega)
     have hX:y<2^bt:=by rw[<-hy];exact Nat.mod_lt _ (Nat.pow_pos (by omega))
     have HY:=hid (And.intro hy hW);have hH:2^bt-1<256:=by rcases hG with rfl|rfl|rfl|rfl<;>decide
     have hI:x&&& (2^bt-1)=y:=by rw[Nat.and_two_pow_sub_one_eq_mod,hy]
     clear hx hy hW;by_cases hh:y<2^bt-1
     · have hi:Hk.intP bt (b::l)=some (y,l):=by rw[Hk.intP,HX.out.1,HY.out.1,if_pos hh]
       have HP:=hid hi;clear hi;rcases hG with rfl|rfl|rfl|rfl
       all_goals
        have ha:=h8 _ hH;rw[hI]at ha;have hj:=Int.ofNat_lt.2 hh;clear h8 hI hX hH hh;first
         |(have hb:bits .and .i64 (x:Int) 15=(y:Int):=ha;have hN:(y:Int)<15:=hj)
         |(have hb:bits .and .i64 (x:Int) 31=(y:Int):=ha;have hN:(y:Int)<31:=hj)
         |(have hb:bits .and .i64 (x:Int) 63=(y:Int):=ha;have hN:(y:Int)<63:=hj)
         |(have hb:bits .and .i64 (x:Int) 127=(y:Int):=ha;have hN:(y:Int)<127:=hj)
        clear ha hj;go_wp2_with fail;go_ret3;exact⟨⟨0,rfl⟩,.inl ⟨_,_,HP.out,by simp⟩⟩
     · have H4:y=2^bt-1:=by omega
       have hi:Hk.intP bt (b::l)=Hk.intMore 5 0 y l:=by rw[Hk.intP,HX.out.1,HY.out.1,if_neg hh]
       have HP:=hid hi;clear hi;subst H4;rcases hG with rfl|rfl|rfl|rfl
       all_goals
        have ha:=h8 _ hH;rw[hI]at ha;clear h8 hI hX hh hH;first
         |(have hb:bits .and .i64 (x:Int) 15=15:=ha)
         |(have hb:bits .and .i64 (x:Int) 31=31:=ha)
         |(have hb:bits .and .i64 (x:Int) 63=63:=ha)
         |(have hb:bits .and .i64 (x:Int) 127=127:=ha)
        clear ha;go_wp2_with fail;go_step3;rename_i hK;refine hK _ _ (H1.out 1 _ rfl _ _ (.inl ⟨rfl,_,1,⟨rfl,rfl,rfl,rfl,rfl⟩,Nat.le_refl _,by omega,by omega,by decide,?_,0,rfl⟩));exact HP.out.symm
 · rintro lb r hl a W (⟨rfl,acc,i,hY,h1,h6,hJ,hF,hg,k,rfl⟩|⟨rfl,hd,hz,h0,k,rfl⟩)
   · injection hl with hl
     injection hl with _ hl
     subst hl;obtain⟨u,rfl⟩:=hY.lit;clear hY;have HG:=hid hg;have hf:=hid hF;clear hg hF;by_cases hk:i=6
     · subst hk
       have h0:Hk.intP bt l=none:=by rw[<-HG.out];rfl
       have ho:=hid h0;clear h0 hJ;go_wp2_with fail;go_step3;exact⟨.inr ⟨rfl,rfl,rfl,ho.out,k,rfl⟩,by simp[muI,intOf]⟩
     obtain⟨m,hm⟩:∃m,6-i=m+1:=⟨5-i,by omega⟩;rw[hm]at HG;by_cases hO:i=n
     · have h0:Hk.intP bt l=none:=by
        have hd:l.drop i=[]:=List.drop_eq_nil_of_le (by rw[HN.out.2.2];omega);rw[<-HG.out,hd];rfl
       have ho:=hid h0;have q0:w.cell? ⟨10,0,none⟩=some (ev ee):=hU.out 0;have hne:¬i=6:=hk;have H9:((i:Int)==6)=false:=by simp;omega
       clear h0 hJ hm;subst hO;go_wp2_with fail;go_quiet (fail);go_wp2_with fail;go_ret3;exact⟨drewN_post _ _ _,.inr ⟨ho.out,_,rfl⟩⟩
     · have he:i<n:=by omega
       have h5:i<=5:=by omega
       obtain⟨ad,hA,H3,hcell⟩:=HR.out.at_ he;subst hA;have hcell:w.cell? (ad.add i)=some (.int .u8 ((l.getD i 0).toNat:Int)):=hcell;have hP:l.drop i=l.getD i 0::l.drop (i+1):=by
        have h2:i<l.length:=by rw[HN.out.2.2];exact he
        rw[List.drop_eq_getElem_cons h2]
        congr 1
        rw[List.getD,List.getElem?_eq_getElem h2];rfl
       have hq:(l.getD i 0).toNat<256:=(l.getD i 0).toNat_lt;have h4:=HG.out;rw[hP,Hk.intMore]at h4;generalize (l.getD i 0).toNat=x at*
       have ha:=and_u8m x hq;have Ha:(i:Int)<(n:Int):=by omega
       have Hb:((i:Int)==6)=false:=by simp;omega
       have Hc:((i:Int)==(n:Int))=false:=by simp;omega
       have HI:=hid (And.intro he hm);have hL:=ib_big he HN.out.1;have He:=w64_succ i hL;have Hg:=w64_self i hL;have Hh:=w64_pred i hL;clear hL;by_cases hx:x<128
       · rw[if_pos hx]at h4
         have ht:x % 128=x:=Nat.mod_eq_of_lt hx;rw[ht]at ha;have hu:(l.drop (i+1)).length=l.length-(i+1):=List.length_drop;have H5:¬(128:Int)<=(x:Int):=λh=>absurd (Int.ofNat_le.1 h) (Nat.not_le.2 hx);have hQ:=λW=>shl7 Tryz.prog x i (Nat.le_of_lt_succ hx) h1 h5 W;have hw:=hid (zbound (x:=x) (Nat.le_of_lt_succ hx) h1 h5 hf.out);obtain⟨z,hz⟩:∃z,x*2^(7*(i-1))=z:=⟨_,rfl⟩;rw[hz]at hQ h4 hw;have hZ:=hid hu;have hC:=hid (And.intro h1 (And.intro hk h6));have H7:wrap64 ((acc:Int)+(z:Int))=((acc+z:Nat):Int):=w64_add acc z hw.out;clear hz ht hq hO hu hJ h1 h6 hk he hP hm h5;by_cases h7:acc+z<=2147483647
         · rw[if_pos h7]at h4
           have hD:=hid h4;have H8:((acc:Int)+(z:Int))<=2147483647:=by have h:=Int.ofNat_le.2 h7;exact h
           clear h4 h7;go_wp2_with fail;go_ret3;refine⟨⟨k,rfl⟩,.inl ⟨_,_,hD.out.symm,?_⟩⟩;rw[hZ.out,sub_back (by have:=HN.out.2.2;have:=HI.out.1;omega)]
           rfl
         · rw[if_neg h7]at h4
           have hD:=hid h4;have q0:w.cell? ⟨5,0,none⟩=some (ev el):=hT.out 0;have H8:¬((acc:Int)+(z:Int))<=2147483647:=λh=>h7 (Int.ofNat_le.1 h);clear h4 h7;go_wp2_with fail;apply wp_label;go_wp2_with fail;go_quiet (fail);go_wp2_with fail;go_ret3;exact⟨drewN_post _ _ _,.inr ⟨hD.out.symm,_,rfl⟩⟩
       · rw[if_neg hx]at h4
         have ht:x % 128=x-128:=xm_sub hx hq;rw[ht]at ha;have hu:(l.drop (i+1)).length=l.length-(i+1):=List.length_drop;have H5:(128:Int)<=(x:Int):=Int.ofNat_le.2 (Nat.not_lt.1 hx);have h3:x-128<=127:=y_127 hq;obtain⟨y,hy⟩:∃y,x-128=y:=⟨_,rfl⟩;rw[hy]at ha h4 h3;have hQ:=λW=>shl7 Tryz.prog y i h3 h1 h5 W;have Hi:=w64_127 h3;have hw:=hid (zbound (x:=y) h3 h1 h5 hf.out);have H0:=hid (accbound (y:=y) h3 h1 hf.out);obtain⟨z,hz⟩:∃z,y*2^(7*(i-1))=z:=⟨_,rfl⟩;rw[hz]at hQ h4 hw H0;have hZ:=hid hu;have hD:=hid h4;have hC:=hid (And.intro h1 (And.intro h5 he));have H7:wrap64 ((acc:Int)+(z:Int))=((acc+z:Nat):Int):=w64_add acc z hw.out;clear hz ht hq hO hu hJ h1 h6 hk he hP hm h5 h4 hy h3 hx;go_wp2_with fail;try go_step3
         refine⟨.inl ⟨rfl,acc+z,i+1,⟨rfl,rfl,rfl,rfl,rfl⟩,Nat.le_add_left 1 i,Nat.succ_le_succ hC.out.2.1,hC.out.2.2,H0.out,?_,k,rfl⟩,?_⟩
         · rw[<-hD.out]
           have e1:6-(i+1)=m:=by have:=HI.out.2;omega
           have e2:7*(i+1-1)=7*(i-1)+7:=by have:=hC.out.1;omega
           rw[e1,e2]
         · simp[muI,intOf]
           have:=hC.out.2.1;omega
   · injection hl with hl
     injection hl with _ hl
     subst hl;obtain⟨u,rfl⟩:=lit66 hd hz;have ho:=hid h0;have q0:w.cell? ⟨5,0,none⟩=some (ev el):=hT.out 0;clear h0;go_wp2_with fail;go_quiet (fail);go_wp2_with fail;go_ret3;exact⟨drewN_post _ _ _,.inr ⟨ho.out,_,rfl⟩⟩
end Go.Proofs.YtkpppjhbmnfmkaaGreatDoor
end

section
set_option maxHeartbeats 4000000
set_option maxRecDepth 100000
namespace Go.Proofs.YtkpppjhbmnfmkaaGreatDoor
open Lib (hid)
open Go.RowKit Go.Own Go.Own.Fr
attribute [local go_sem] Oper.semAt_some
theorem run_sub8 {P:Program} {t e:TypeId} (hP:ByteP P t e) (A:Option Addr) (n c k u:Nat) (hk:k+u<=n) (hc:n<=c) (W:World):
 (Instr.slice t (.slice A n c) (some (.int .i64 (k:Int))) (some (.int .i64 ((k:Int)+(u:Int)))) none).run P W= .ok (.slice (if c=k then A else A.map λx=>x.add k) u (c-k)) W:=by
 obtain⟨i,hi,hz,h1,h2⟩:=hP.info;have e:((k:Int)+(u:Int)).toNat=k+u:=by omega
 have h0:=run_sliceBound (P:=P) (w:=W) .i64 (k:Int) (k+u) .sliceB (by omega) (by omega);simp only[Int.toNat_natCast]at h0;simp[Instr.slice,h0,run_underlying hP.slice,Instr.sliceBounds,run_sliceBound,sizeOf,typeInfo,hi,h1,Result.andThen,e,show(k:Int)+u<=c by omega,show(0:Int)<=(k:Int)+u by omega]
def TextPost (l:List UInt8) (w:World) (e:Ending) (w':World):Prop:=
 Below w.heap.size w w'/\((∃s r,Hk.textP l=some (s,r)/\e= .returned (.tuple #[.string ⟨s.toArray⟩,.int .i64 (l.length-r.length:Nat),.nilIface]))\/(Hk.textP l=none/\∃a,e= .returned (.tuple #[.string ⟨#[]⟩,.int .i64 0,ev a])))
theorem w64_add2 (a b:Nat) (h:a<=1000000) (k:b<=1000000):wrap64 ((a:Int)+(b:Int))=(a:Int)+(b:Int):=by unfold wrap64;omega
theorem w64_sub2 (a b:Nat) (h:a<=1000000) (k:b<=a):wrap64 ((a:Int)-(b:Int))=((a-b:Nat):Int):=by unfold wrap64;omega
theorem intP_len2 {bits:Nat} {l:List UInt8} {i:Nat} {r:List UInt8} (h:Hk.intP bits l=some (i,r)):∃at_,at_+r.length=l.length/\l.drop at_=r/\1<=at_:=by
 have more:∀(k sh n:Nat) (l:List UInt8) (m:Nat) (r:List UInt8),Hk.intMore k sh n l=some (m,r)->∃at_,at_+r.length=l.length/\l.drop at_=r:=by
  intro k
  induction k with
  |zero=>intro sh n l m r h;simp[Hk.intMore]at h
  |succ k ih=>
   intro sh n l m r h;cases l with
   |nil=>simp[Hk.intMore]at h
   |cons b l=>
    rw[Hk.intMore]at h
    split at h
    · split at h
      · injection h with h;injection h with _ h;subst h
        exact⟨1,by simp;omega,rfl⟩
      · cases h
    · obtain⟨a,h1,h2⟩:=ih _ _ _ _ _ h
      exact⟨a+1,by simp;omega,h2⟩
 cases l with
 |nil=>cases h
 |cons b l=>
  rw[Hk.intP]at h
  split at h
  · injection h with h;injection h with _ h;subst h
    exact⟨1,by simp;omega,rfl,Nat.le_refl _⟩
  · obtain⟨a,h1,h2⟩:=more _ _ _ _ _ _ h
    exact⟨a+1,by simp;omega,h2,by omega⟩
theorem hgive_err (a:Addr) (w:World):Calls Tryz.prog 242 #[ev a] w λe w'=>e= .panicked [{v:=.iface 279 (.agg #[ev a]),recovered:=false}]/\w'=w:=by
 unfold ev;go_enter Tryz.func242,Tryz.ntmps242;go_wp2;exact⟨rfl,rfl,rfl⟩
theorem htext_any (A:Option Addr) (n c B:Nat) (l:List UInt8) (w:World) (hr:Rd w B A n l) (hB:B<=w.heap.size) (hc:n<=c) (hn:n<=1000000) (hE:HpE w):
 Calls Tryz.prog 264 #[.slice A n c] w (TextPost l w):=by
 have h7:=hid (hint_any 7 A n c B l w (by omega) hr hc hn hE);obtain⟨el,hq⟩:=hE.long;obtain⟨ee,hu⟩:=hE.end_;obtain⟨eh,hL⟩:=hE.huff;have hN:=hid (λk=>(show(w.drewN k).cell? ⟨5,0,none⟩=some (ev el)from hq));have hO:=hid (λk=>(show(w.drewN k).cell? ⟨10,0,none⟩=some (ev ee)from hu));have hl:=hr.1;have HN:=hid (show n<=1000000/\n<=c/\l.length=n from⟨hn,hc,hl⟩);have HR:=hid hr;have hP:=hid hE.room;have hQ:=hid hB;clear hE hq hu hn hc hl hr hB;cases hi:Hk.intP 7 l with
 |none=>
  have ht:Hk.textP l=none:=by rw[Hk.textP,hi]
  have HT:=hid ht;clear ht;go_enter Tryz.func264,Tryz.ntmps264;go_wp2_with (first
   |(go_at_call 256
     refine Calls.mono h7.out ?_;rintro e w1 ⟨⟨k1,hw⟩,hp⟩;rcases hp with⟨i,r,h6,_⟩|⟨_,a,rfl⟩
     · rw[hi]at h6;cases h6
     subst w1;unfold ev)
   |fail)
  go_ret3;exact⟨bdN (Below.refl _ _) _,.inr ⟨HT.out,a,rfl⟩⟩
 |some p=>
  obtain⟨i,r⟩:=p;obtain⟨at_,hf,hb,hh⟩:=intP_len2 hi;have hd:l.length-r.length=at_:=by omega
  have he:Hid (Calls Tryz.prog 256 #[.slice A n c,.int .i64 7] w λe w'=>(∃n,w'=w.drewN n)/\e= .returned (.tuple #[.int .i64 (i:Nat),.int .i64 (at_:Nat),.nilIface])):=hid (h7.out.mono (by
   rintro e w1 ⟨hw,hp⟩;rcases hp with⟨i2,r2,h6,rfl⟩|⟨h0,_⟩
   · rw[hi]at h6
     injection h6 with h6
     injection h6 with h1 h2
     subst h1 h2;exact⟨hw,by rw[hd]⟩
   · rw[hi]at h0;cases h0))
  have hj:r.length<=1000000:=by have:=HN.out.1;have:=HN.out.2.2;omega
  by_cases h3:16384<i
  · have ht:Hk.textP l=none:=by rw[Hk.textP,hi];simp only;rw[if_pos h3]
    have HT:=hid ht;have q0:w.cell? ⟨5,0,none⟩=some (ev el):=hN.out 0;have hR:(16384:Int)<(i:Int):=Int.ofNat_lt.2 h3;clear ht hi hf hb hh hd h3 hj;go_enter Tryz.func264,Tryz.ntmps264;go_wp2_with (first
     |(go_at_call 256
       refine Calls.mono he.out ?_;rintro e w1 ⟨⟨k1,hw⟩,rfl⟩;subst w1)
     |fail)
    go_quiet (fail);go_wp2_with fail;go_ret3;exact⟨bdN (bdN (Below.refl _ _) _) _,.inr ⟨HT.out,_,rfl⟩⟩
  · have hR:¬(16384:Int)<(i:Int):=λh=>h3 (Int.ofNat_lt.1 h)
    have hY:wrap64 ((n:Int)-(at_:Int))=((r.length:Nat):Int):=by
     rw[w64_sub2 n at_ HN.out.1 (by have:=HN.out.2.2;omega)]
     congr 1
     have:=HN.out.2.2;omega
    by_cases h4:r.length<i
    · have ht:Hk.textP l=none:=by rw[Hk.textP,hi];simp only;rw[if_neg h3,if_pos h4]
      have HT:=hid ht;have q0:w.cell? ⟨10,0,none⟩=some (ev ee):=hO.out 0;have hS:((r.length:Nat):Int)<(i:Int):=Int.ofNat_lt.2 h4;clear ht hi hf hb hh hd h3 hj h4;generalize r.length=rl at*
      go_enter Tryz.func264,Tryz.ntmps264;go_wp2_with (first
       |(go_at_call 256
         refine Calls.mono he.out ?_;rintro e w1 ⟨⟨k1,hw⟩,rfl⟩;subst w1)
       |fail)
      go_quiet (fail);go_wp2_with fail;go_ret3;exact⟨bdN (bdN (Below.refl _ _) _) _,.inr ⟨HT.out,_,rfl⟩⟩
    · have hS:¬((r.length:Nat):Int)<(i:Int):=λh=>h4 (Int.ofNat_lt.1 h)
      have hk:at_+i<=n:=by have:=HN.out.2.2;omega
      have hT:=run_sub8 (P:=Tryz.prog) byteP A n c at_ i hk HN.out.2.1;have h5:=HR.out.sub (k:=at_) (u:=i) (c:=c) hk HN.out.2.1;rw[hb]at h5;have h8:=w64_add2 at_ i (by have:=HN.out.1;omega) (by omega);obtain⟨A',hC⟩:∃A',(if c=at_ then A else A.map λx=>x.add at_)=A':=⟨_,rfl⟩;rw[hC]at hT h5;have hZ:=λk=>run_str (P:=Tryz.prog) (c:=c-at_) 22 9 5 Tryz.underlying22 Tryz.underlying5 Tryz.underlying9 (h5.drewN k);have hm:0<n:=by omega
      obtain⟨ad,hA,H0,hcell⟩:=HR.out.at_ (k:=0) hm;subst hA;have hcell:w.cell? ad=some (.int .u8 ((l.getD 0 0).toNat:Int)):=hcell;have ho:l.headD 0=l.getD 0 0:=by cases l<;>rfl
      have hD:(r.drop i).length=r.length-i:=List.length_drop;have h9:l.length-(r.drop i).length=at_+i:=by rw[hD];omega
      have HF:=hid h9;have hX:(0:Int)<(n:Int):=Int.ofNat_lt.2 hm;have hF:(l.getD 0 0).toNat<256:=(l.getD 0 0).toNat_lt;have hU:=hid (λk=>hdec_any A' i (c-at_) B (r.take i) (ev eh) (w.drewN k) (h5.drewN k) hQ.out (by have:=HN.out.2.1;omega) (by omega) hL (Nat.lt_of_lt_of_le (by decide) hP.out));have hG:∀s,(l.getD 0 0).toNat<128/\s=r.take i\/¬(l.getD 0 0).toNat<128/\Hk.decH (r.take i)=some s->Hk.textP l=some (s,r.drop i):=λs hs=>by
       rw[Hk.textP,hi];simp only;rw[if_neg h3,if_neg h4,ho];rcases hs with⟨h1,rfl⟩|⟨h1,h2⟩
       · rw[if_pos h1]
       · rw[if_neg h1,h2]
      have hH:¬(l.getD 0 0).toNat<128->Hk.decH (r.take i)=none->Hk.textP l=none:=λh1 h2=>by
       rw[Hk.textP,hi];simp only;rw[if_neg h3,if_neg h4,ho,if_neg h1,h2]
      have hI:=hid hG;have hV:=hid hH;clear hG hH ho hD h9 hi hf hb hh hd h3 hj h4 h5 hk hm hC;generalize (l.getD 0 0).toNat=x at*
      generalize r.length=rl at*
      by_cases hx:x<128
      · have hW:¬(128:Int)<=(x:Int):=λh=>absurd (Int.ofNat_le.1 h) (Nat.not_le.2 hx)
        have HT:=hid (hI.out _ (.inl ⟨hx,rfl⟩));clear hx hF;go_enter Tryz.func264,Tryz.ntmps264;go_wp2_with (first
         |(go_at_call 256
           refine Calls.mono he.out ?_;rintro e w1 ⟨⟨k1,hw⟩,rfl⟩;subst w1)
         |fail)
        go_ret3;refine⟨bdN (Below.refl _ _) _,.inl ⟨_,_,HT.out,?_⟩⟩;rw[HF.out,h8]
        rfl
      · have hW:(128:Int)<=(x:Int):=Int.ofNat_le.2 (Nat.not_lt.1 hx)
        have HX:=hid hx;clear hx hF;go_enter Tryz.func264,Tryz.ntmps264;go_wp2_with fail;refine he.out.mono ?_;rintro e w1 ⟨⟨k1,hw⟩,rfl⟩;subst w1;go_wp2_with fail;refine(hU.out _).mono ?_;rintro e w2 ⟨hJ,hp⟩;have hK:=hid hJ;clear hJ;rcases hp with⟨s,hs,rfl⟩|⟨hs,rfl⟩
        · have HT:=hid (hI.out _ (.inr ⟨HX.out,hs⟩))
          clear hs;go_wp2_with fail;go_ret3;refine⟨(bdN (Below.refl w.heap.size w) k1).trans hK.out,.inl ⟨_,_,HT.out,?_⟩⟩;rw[HF.out];simp[h8]
        · have HT:=hid (hV.out HX.out hs)
          clear hs;unfold ev;go_wp2_with fail;go_ret3;exact⟨(bdN (Below.refl w.heap.size w) k1).trans hK.out,.inr ⟨HT.out,_,rfl⟩⟩
end Go.Proofs.YtkpppjhbmnfmkaaGreatDoor
end

section
set_option maxHeartbeats 4000000
set_option maxRecDepth 100000
namespace Go.Proofs.YtkpppjhbmnfmkaaGreatDoor
open Lib (hid)
open Go.RowKit Go.Own Go.Own.Cx
def lineL:List (List UInt8):=Hk.statL.map λp=>if p.2.isEmpty then p.1 else p.1++32::p.2
def StatA (L:List ByteArray):Prop:=L.map (·.data.toList)=lineL
theorem cut_all:lineL.map (λl=>((Lib.cut l [32]).1,(Lib.cut l [32]).2.1))=Hk.statL:=by kernel_rfl
theorem line_len:lineL.all (λl=>Nat.ble l.length 100)=true:=by kernel_rfl
theorem lineL_len:lineL.length=61:=by kernel_rfl
theorem StatA.len {L:List ByteArray} (h:StatA L):L.length=61:=by
 have:=congrArg List.length h
 rwa [List.length_map,lineL_len]at this
theorem StatA.at_ {L:List ByteArray} (h:StatA L) {j:Nat} {hd:Hd.HdrV} (hj:Hk.statH[j]?=some hd):∃s:ByteArray,L[j]?=some s/\s.size<=100/\(⟨(Lib.cut s.data.toList [32]).1.toArray⟩:ByteArray)=hd.name/\(⟨(Lib.cut s.data.toList [32]).2.1.toArray⟩:ByteArray)=hd.value/\hd.never=false/\j<61:=by
 have h4:j<61:=by
  have h1:=(List.getElem?_eq_some_iff.1 hj).1;have h2:Hk.statH.length=61:=by kernel_rfl
  omega
 have h0:j<L.length:=by rw[h.len];exact h4
 refine⟨L[j],List.getElem?_eq_getElem h0,?_,?_⟩
 · have h1:lineL[j]?=some (L[j].data.toList):=by rw[<-show L.map (·.data.toList)=lineL from h,List.getElem?_map,List.getElem?_eq_getElem h0];rfl
   have h2:=List.all_eq_true.1 line_len _ (List.mem_of_getElem? h1);have h3:=Nat.le_of_ble_eq_true h2
   simpa using h3
 · have h1:lineL[j]?=some (L[j].data.toList):=by rw[<-show L.map (·.data.toList)=lineL from h,List.getElem?_map,List.getElem?_eq_getElem h0];rfl
   have h2:Hk.statL[j]?=some ((Lib.cut (L[j].data.toList) [32]).1,(Lib.cut (L[j].data.toList) [32]).2.1):=by
    rw[<-cut_all,List.getElem?_map,h1];rfl
   rw[Hk.statH,List.getElem?_map,h2]at hj;simp only[Option.map_some,Option.some.injEq]at hj;subst hj;exact⟨rfl,rfl,rfl,h4⟩
theorem statA_of {s:ByteArray} (h1:lns s.data.toList=lineL):StatA (Lib.splitB ⟨#[10]⟩ 0 (Lib.countB s ⟨#[10]⟩) s)/\Lib.countB s ⟨#[10]⟩+1=61:=by
 obtain⟨e1,e2⟩:=lns_split s.data.toList.length s.data.toList (Nat.le_refl _);have e3:(Lib.splitB ⟨#[10]⟩ 0 (Lib.countB s ⟨#[10]⟩) s).map (·.data.toList)=lns s.data.toList:=(Lib.splitB_data _ _ _ _).trans e1;refine⟨e3.trans h1,?_⟩;rw[h1,lineL_len]at e2;exact e2
theorem standsA_any (w:World) (m:Int) (hm:w.cell? ⟨13,0,none⟩=some (.int .i64 m)):
 Calls Tryz.prog 233 #[] w λe w'=>∃L,StatA L/\e= .returned (.slice (some ⟨w.heap.size,0,none⟩) 61 61)/\w'=w.alloc (.cells (L.map Value.string).toArray 9):=by
 have HS:=hid (λ(s:ByteArray) (hs:s.size<4294967281) (h1:lns s.data.toList=lineL)=>
  (show Calls Tryz.prog 255 #[.string s,.string ⟨#[10]⟩] w λe w'=>∃L,StatA L/\e= .returned (.slice (some ⟨w.heap.size,0,none⟩) 61 61)/\w'=w.alloc (.cells (L.map Value.string).toArray 9)from by
    obtain⟨k1,k2⟩:=statA_of h1;refine(Tryz.strings_Split s ⟨#[10]⟩ m w hs hm (by decide)).mono ?_;intro e w' h;exact⟨_,k1,by rw[h.1,k2],h.2⟩))
 go_enter Tryz.func233,Tryz.ntmps233;go_wp2_with (first
  |(go_at_call 255
    refine Calls.mono (HS.out _ (of_decide_eq_true (by kernel_rfl)) (by kernel_rfl)) ?_;rintro e w1 ⟨L,hL,rfl,hw⟩;subst w1)
  |fail)
 go_ret;exact⟨L,hL,rfl,rfl⟩
theorem staticA_any (i j:Nat) (hij:i=j+1) (h:Hd.HdrV) (hi:Hk.statH[j]?=some h) (w:World) (m:Int) (hm:w.cell? ⟨13,0,none⟩=some (.int .i64 m)):
 Calls Tryz.prog 212 #[.int .i64 (i:Nat)] w λe w'=>e= .returned (.tuple #[.agg (hdrC h),.bool true])/\Below w.heap.size w w':=by
 have h3:=hid ((Below.refl w.heap.size w).alloc (Nat.le_refl _) (.cells #[.string ⟨#[]⟩,.string ⟨#[]⟩,.bool false] 63));have HX:=hid (Blk.new w 63 #[.string ⟨#[]⟩,.string ⟨#[]⟩,.bool false]);have hg:13<w.heap.size:=World.block_lt_of_cell? w _ hm;have HM:=hid (λ(W:World) (hb:Below w.heap.size w W)=>(show W.cell? ⟨13,0,none⟩=some (.int .i64 m)from(World.cell?_of_block (hb.block _ hg)).trans hm));have HI:=hid hi;have h5:j<61:=by
  have h1:=(List.getElem?_eq_some_iff.1 hi).1;have h2:Hk.statH.length=61:=by kernel_rfl
  omega
 have k1:¬(i:Int)<1:=by omega
 have k2:¬(61:Int)<(i:Int):=by omega
 have h6:i-1=j:=by omega
 have he:=hid h6;clear hm hg hi hij h5 h6;go_enter Tryz.func212,Tryz.ntmps212;go_upto_region 3 with fail;generalize w.alloc (.cells #[.string ⟨#[]⟩,.string ⟨#[]⟩,.bool false] 63)=W0 at*
 have hf:=HM.out W0 h3.out;go_wp2_with (first
  |(go_at_call 233
    refine Calls.mono (standsA_any W0 m hf) ?_;rintro e w1 ⟨L,hL,rfl,hw⟩;obtain⟨s,h7,h8,hs3,h9,hc,hh⟩:=hL.at_ HI.out;have h4:=hid (h3.out.alloc h3.out.size (.cells (L.map Value.string).toArray 9));have qj:w1.cell? ⟨W0.heap.size,i-1,none⟩=some (.string s):=by
     rw[hw,he.out];exact((Blk.new W0 9 (L.map Value.string).toArray).cell j).trans (by simp[h7])
    have hd:=hid (And.intro h8 (And.intro hs3 (And.intro h9 hc)));rw[<-hw]at h4;have h0:Blk w1 w.heap.size 63 #[.string ⟨#[]⟩,.string ⟨#[]⟩,.bool false]:=hw▸HX.out.alloc _;have hj:=HM.out w1 h4.out;clear hL hw h7 h8 hs3 h9 hc hh)
  |(go_at_call 232
    refine Calls.mono (Tryz.strings_Cut _ _ m _ (by have:=hd.out.1;omega) hj) ?_;rintro e w2 ⟨rfl,n,hw⟩;subst w2;have hk:=h0.drewN n;have x0:=h0.cell 0;have x1:=h0.cell 1;have x2:=h0.cell 2;have xf:=h0.frozen 0;have xf1:=h0.frozen 1;have xf2:=h0.frozen 2;simp only[List.getElem?_toArray,List.getElem?_cons_zero,List.getElem?_cons_succ]at x0 x1 x2)
  |fail)
 refine bodyPost_ret (results_static _ _ w.heap.size _ _ _ _ rfl rfl (Blk3 hk rfl _ _ _)) rfl ⟨?_,below3 (bdN h4.out n) (Nat.le_refl _) _ _ _⟩;obtain⟨hn,hv,hne⟩:=h;have e1:=hd.out;simp only at e1;obtain⟨_,e2,e3,e4⟩:=e1;subst e2 e3 e4
 rfl
theorem static0_any (w:World):Calls Tryz.prog 212 #[.int .i64 0] w λe w'=>e= .returned (.tuple #[.agg #[.string ⟨#[]⟩,.string ⟨#[]⟩,.bool false],.bool false])/\Below w.heap.size w w':=by
 have h0:=hid ((Below.refl w.heap.size w).alloc (Nat.le_refl _) (.cells #[.string ⟨#[]⟩,.string ⟨#[]⟩,.bool false] 63));have HX:=hid (Blk.new w 63 #[.string ⟨#[]⟩,.string ⟨#[]⟩,.bool false]);go_enter Tryz.func212,Tryz.ntmps212;go_upto_region 2 with fail;generalize w.alloc (.cells #[.string ⟨#[]⟩,.string ⟨#[]⟩,.bool false] 63)=W0 at*
 have x0:=HX.out.cell 0;have x1:=HX.out.cell 1;have x2:=HX.out.cell 2;have xf:=HX.out.frozen 0;have xf1:=HX.out.frozen 1;have xf2:=HX.out.frozen 2;have xl:=HX.out.lt;simp only[List.getElem?_toArray,List.getElem?_cons_zero,List.getElem?_cons_succ]at x0 x1 x2;go_wp2_with fail;refine bodyPost_ret (results_static _ _ w.heap.size _ _ _ _ rfl rfl (Blk3 HX.out rfl _ _ _)) rfl ⟨rfl,below3 h0.out (Nat.le_refl _) _ _ _⟩
end Go.Proofs.YtkpppjhbmnfmkaaGreatDoor
end
