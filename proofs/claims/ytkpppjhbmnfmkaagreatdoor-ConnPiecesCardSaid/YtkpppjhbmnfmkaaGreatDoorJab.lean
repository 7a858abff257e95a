/-
  
  
  
  
  
  
  
  
  
  
  
  
  
  
  
  
-/
import Derived.Test.YtkpppjhbmnfmkaaGreatDoorJaa
import Derived.Deep.AppendSrc
import Derived.Deep.Upon
import Derived.Test.YtkpppjhbmnfmkaaGreatDoorProg
import Derived.Test.YtkpppjhbmnfmkaaGreatDoorJae
import Derived.WalkKit
import Derived.Lib.Hide
import Derived.LoopTactic
import Derived.Outline
import Derived.Deep.RegionHeld3
import Derived.Deep.DeepCutAuto
import Derived.Laws.MakeOwn
import Derived.LaidEqlPtr
import Derived.Lib.SlBytesConst
import Derived.BigQuiet
set_option linter.unusedSimpArgs false
set_option linter.unusedVariables false
section
namespace Go.Own
open Go Go.RowKit
theorem tape_setCells (g:Nat):∀(vs:List Value) (o:Nat) (w:World),(w.setCells g o vs).tape=w.tape
 |[],_,_=>rfl
 |_::r,o,w=>(tape_setCells g r (o+1) _).trans rfl
theorem size_setCells (g:Nat):∀(vs:List Value) (o:Nat) (w:World),(w.setCells g o vs).heap.size=w.heap.size
 |[],_,_=>rfl
 |_::r,o,w=>(size_setCells g r (o+1) _).trans (by simp[World.setCell])
theorem grown_setCells (w:World) (g o:Nat) (vs:List Value):w.grownBy (w.setCells g o vs) (some g):=
 ⟨World.os_setCells w g o vs,tape_setCells g vs o w,World.output_setCells w g o vs,by rw[size_setCells];exact Nat.le_refl _,λi hi hne=>World.heap_setCells_other w g o vs hi (λe=>hne (by rw[e]))⟩
def Oz (w:World) (own:Nat->Prop) (v:Value) (l:List UInt8):Prop:=
 ∃A c,v= .slice A l.length c/\l.length<=c/\c<=maxLen/\(0<c->∃g off,A=some ⟨g,off,none⟩/\own g/\g<w.heap.size/\
  (∀j,l.length<=j->j<c->(w.cell? ⟨g,off+j,none⟩).isSome=true/\w.frozen? ⟨g,off+j,none⟩=false)/\∀j,j<l.length->w.cell? ⟨g,off+j,none⟩=some (bv (l.getD j 0)))
section
variable {w w':World} {own own':Nat->Prop} {v:Value} {l:List UInt8}
theorem Oz.nil (w:World) (own:Nat->Prop):Oz w own (.slice none 0 0) []:=⟨none,0,rfl,Nat.le_refl _,by simp[maxLen],λh=>absurd h (Nat.lt_irrefl _)⟩
theorem Oz.owned (h:Oz w own v l) (hm:∀g,g<w.heap.size->own g->own' g):Oz w own' v l:=by
 obtain⟨A,c,rfl,h1,h2,h3⟩:=h;exact⟨A,c,rfl,h1,h2,λhc=>by
  obtain⟨g,off,e,ho,h0,r⟩:=h3 hc;exact⟨g,off,e,hm g h0 ho,h0,r⟩⟩
theorem Oz.keep (h:Oz w own v l) (hk:∀g,g<w.heap.size->own g->w'.heap[g]?=w.heap[g]?) (hs:w.heap.size<=w'.heap.size):Oz w' own v l:=by
 obtain⟨A,c,rfl,h1,h2,h3⟩:=h;refine⟨A,c,rfl,h1,h2,λhc=>?_⟩;obtain⟨g,off,e,ho,h0,h4,h5⟩:=h3 hc;have hh:=hk g h0 ho;have e1:∀j,w'.cell? ⟨g,j,none⟩=w.cell? ⟨g,j,none⟩:=λj=>World.cell?_of_block (a:=⟨g,j,none⟩) hh;have e2:∀j,w'.frozen? ⟨g,j,none⟩=w.frozen? ⟨g,j,none⟩:=λj=>World.frozen?_of_block (a:=⟨g,j,none⟩) hh;exact⟨g,off,e,ho,Nat.lt_of_lt_of_le h0 hs,λj hl hj=>by rw[e1,e2];exact h4 j hl hj,λj hj=>by rw[e1];exact h5 j hj⟩
theorem Oz.grown {row:Option Nat} (h:Oz w own v l) (hg:w.grownBy w' row) (hn:∀g,row=some g->¬own g):Oz w' own v l:=
 h.keep (λg h0 ho=>hg.block g h0 (λe=>hn g e.symm ho)) hg.size
theorem Oz.drew (h:Oz w own v l):Oz w.drew own v l:=h
theorem Oz.form (h:Oz w own v l):∃A c,v= .slice A l.length c/\l.length<=c/\c<=maxLen:=by
 obtain⟨A,c,e,h1,h2,_⟩:=h;exact⟨A,c,e,h1,h2⟩
theorem Oz.rd {A:Option Addr} {n c:Nat} (h:Oz w own (.slice A n c) l):Rd w w.heap.size A n l:=by
 obtain⟨A',c',e,h1,h2,h3⟩:=h;injection e with e1 e2 e3
 subst e1 e2 e3;refine⟨rfl,λhn=>?_⟩;obtain⟨g,off,rfl,_,h0,_,h4⟩:=h3 (by omega);exact⟨_,rfl,h0,λj hj=>by rw[Addr.add_lit];exact h4 j hj⟩
theorem Oz.of_ow {base:Nat} {e:TypeId} {n:Nat} (h:Ow w base e v n l) (ho:∀g,v.ownBlock=some g->own g):Oz w own v l:=by
 have hl:=h.len;subst hl;have hb:=h.2;rcases hb with⟨rfl,h0⟩|⟨g,cap,cur,rfl,_,hg,hn,hm,hs,_⟩
 · have:l=[]:=List.eq_nil_of_length_eq_zero h0
   subst this;exact Oz.nil w own
 · have h1:g<w.heap.size:=by
    rcases Nat.lt_or_ge g w.heap.size with h1|h2
    · exact h1
    · rw[Array.getElem?_eq_none h2]at hg;cases hg
   refine⟨_,cap,rfl,hn,hm,λhc=>⟨g,0,rfl,ho g rfl,h1,λj _ hj=>?_,λj hj=>?_⟩⟩
   · have e1:=cell_of_row w g (0+j) cur e (0,0) hg
     have h3:0+j<cur.size:=by rw[hs];omega
     refine⟨?_,by simp[World.frozen?,hg]⟩;rw[e1,Array.getElem?_eq_getElem h3]
     rfl
   · obtain⟨ad,e',_,hc⟩:=(Ow.rd (w:=w) (base:=base) (e:=e) (A:=some ⟨g,0,none⟩) (cap:=cap) h).2 (by omega)
     injection e' with e'
     subst e';have:=hc j hj;rw[Addr.add_lit]at this;exact this
theorem Oz.full {w:World} {own:Nat->Prop} {g n:Nat} {l:List UInt8} {B:Nat} (h:Rd w B (some ⟨g,0,none⟩) n l) (hB:B<=w.heap.size) (hn:n<=1000000) (hg:own g) (h0:0<n):Oz w own (.slice (some ⟨g,0,none⟩) n n) l:=by
 have hl:=h.1;subst hl;obtain⟨ad,e,hb,hc⟩:=h.2 h0;injection e with e
 subst e;refine⟨_,l.length,rfl,Nat.le_refl _,by simp only[maxLen];omega,λ_=>⟨g,0,rfl,hg,Nat.lt_of_lt_of_le hb hB,λj h1 h2=>absurd h1 (by omega),λj hj=>?_⟩⟩;have:=hc j hj;rw[Addr.add_lit]at this;exact this
theorem Oz.cut {A:Option Addr} {n c k:Nat} (h:Oz w own (.slice A n c) l) (hk:k<=n):Oz w own (.slice (if c=k then A else A.map λx=>x.add k) (n-k) (c-k)) (l.drop k):=by
 obtain⟨A',c',e,h1,h2,h3⟩:=h;injection e with e1 e2 e3
 subst e1 e2 e3;refine⟨_,c-k,by rw[List.length_drop],by rw[List.length_drop];omega,by omega,λhc=>?_⟩;obtain⟨g,off,rfl,ho,h0,hs,h4⟩:=h3 (by omega);refine⟨g,off+k,?_,ho,h0,λj hl hj=>?_,λj hj=>?_⟩
 · rw[if_neg (by omega)]
   simp[Addr.add_lit]
 · rw[List.length_drop]at hl
   rw[Nat.add_assoc];exact hs (k+j) (by omega) (by omega)
 · rw[List.length_drop]at hj
   rw[Nat.add_assoc,h4 (k+j) (by omega)];simp
def UF (w:World) (g:Nat):Prop:=∀j,w.frozen? ⟨g,j,none⟩=false
theorem UF.same {g:Nat} (h:UF w g) (hh:w'.heap[g]?=w.heap[g]?):UF w' g:=λj=>(World.frozen?_of_block (a:=⟨g,j,none⟩) hh).trans (h j)
theorem UF.of {g:Nat} {t:TypeId} {cs:Array Value} (h:Blk w g t cs):UF w g:=λj=>h.frozen j
theorem UF.ow {base n:Nat} {e:TypeId} {l:List UInt8} (h:Ow w base e v n l) {g:Nat} (hg:v.ownBlock=some g):UF w g:=by
 rcases h.2 with⟨rfl,_⟩|⟨g',cap,cur,rfl,_,hh,_⟩
 · cases hg
 · have e1:g'=g:=by simpa [Value.ownBlock]using hg
   subst e1;exact UF.of (t:=e) (cs:=cur) hh
def OzF (w:World) (own:Nat->Prop) (v:Value) (l:List UInt8):Prop:=Oz w own v l/\(24<l.length->∀A n c,v= .slice (some A) n c->UF w A.block)
theorem OzF.nil (w:World) (own:Nat->Prop):OzF w own (.slice none 0 0) []:=⟨Oz.nil w own,λh=>absurd h (by decide)⟩
theorem OzF.few (h:Oz w own v l) (hl:l.length<=24):OzF w own v l:=⟨h,λh=>absurd h (by omega)⟩
theorem OzF.of_ow {base:Nat} {e:TypeId} {n:Nat} (h:Ow w base e v n l) (ho:∀g,v.ownBlock=some g->own g):OzF w own v l:=
 ⟨Oz.of_ow h ho,λ_ A n c e=>UF.ow h (by rw[e];rfl)⟩
end
theorem run_app_z {P:Program} {t e:TypeId} (hP:ByteP P t e) (w:World) (ty:TypeId) (own:Nat->Prop) (v:Value) (l:List UInt8) (h:Oz w own v l) (B:Nat) (A:Option Addr) (m c:Nat) (l2:List UInt8) (hr:Rd w B A m l2) (hb:l.length+m<=140737488355328):
 ∃v' w' row,(Builtin.append_ #[t,t] ty #[v,.slice A m c]).run P w= .ok v' w'/\Oz w' (λg=>own g\/(row=none/\g=w.heap.size)) v' (l++l2)/\w.grownBy w' row/\(∀g,row=some g->own g/\g<w.heap.size):=by
 obtain⟨i,hi,hz,h1,h2⟩:=hP.info;obtain⟨A0,c0,rfl,hd,he,ho⟩:=h;have h3:=hr.1;have hw:maxLen=9223372036854775807:=rfl;have hs:Src P i.size t (.slice A m c) m (l2.map bv) w:=by
  rcases A with _|ad
  · obtain⟨rfl,rfl⟩:=hr.none_zero
    exact Src.ofNil _ hP.slice c
  · exact Src.ofSlice _ hP.slice ad m c _ (by simp[h1,h3]) hr.cells bv_one
 have h8:(l2.map bv).length=m:=by simp[h3]
 by_cases h5:l.length+m<=c0
 · by_cases hh:c0=0
   · subst hh
     have hm:m=0:=by omega
     subst hm;have e2:l2=[]:=List.eq_nil_of_length_eq_zero h3;subst e2;have h4:=run_append_nothing (P:=P) w t t ty e i hP.slice hi A0 l.length 0 hd (.slice A 0 c) hs;exact⟨_,w,none,h4,⟨A0,0,by simp,by simpa using hd,he,λh=>absurd h (Nat.lt_irrefl _)⟩,World.grownBy.refl w _,λg e=>by cases e⟩
   · obtain⟨g,off,rfl,hg,hf,h7,h9⟩:=ho (by omega)
     have h6:∀j,j<(l2.map bv).length->(w.cell? ⟨g,off+l.length*i.size+j,none⟩).isSome=true:=λj hj=>by
      rw[h1,Nat.mul_one,Nat.add_assoc];exact(h7 (l.length+j) (by omega) (by omega)).1
     have h4:=run_append_room_src (P:=P) w t t ty e i hP.slice hi g off l.length c0 (.slice A m c) m _ hs h5 h6
      (λj hj=>by rw[h1,Nat.mul_one,Nat.add_assoc];exact(h7 (l.length+j) (by omega) (by omega)).2)
     refine⟨_,_,some g,h4,⟨_,c0,by rw[List.length_append,h3],by rw[List.length_append,h3];exact h5,he,λ_=>⟨g,off,rfl,.inl hg,?_,λj hl hj=>⟨?_,?_⟩,λj hj=>?_⟩⟩,grown_setCells w g _ _,λg' e=>by injection e with e;subst e;exact⟨hg,hf⟩⟩
     · rw[size_setCells];exact hf
     · rw[List.length_append,h3]at hl
       rw[World.cell?_setCells_out g _ _ _ _ (λ_ _=>by rw[h1,h8];show off+j<off+l.length*1\/off+l.length*1+m<=off+j;omega)];exact(h7 j (by omega) hj).1
     · rw[List.length_append,h3]at hl
       rw[World.frozen?_setCells];exact(h7 j (by omega) hj).2
     · rw[List.length_append,h3]at hj
       by_cases hn:l.length<=j
       · have:=World.cell?_setCells_in g (l2.map bv) (off+l.length*i.size) w h6 (j-l.length) (by omega)
         rw[h1,Nat.mul_one,show off+l.length+(j-l.length)=off+j by omega]at this;rw[h1,Nat.mul_one,this,List.getElem_map,List.getD_eq_getElem?_getD,List.getElem?_append_right hn,List.getElem?_eq_getElem (by omega)]
         rfl
       · rw[World.cell?_setCells_out g _ _ _ _ (λ_ _=>by rw[h1,h8];show off+j<off+l.length*1\/off+l.length*1+m<=off+j;omega),h9 j (by omega),List.getD_eq_getElem?_getD,List.getD_eq_getElem?_getD,List.getElem?_append_left (by omega)]
 · have hc:(Builtin.firstCells i.size l.length (.slice A0 l.length c0)).run P w.drew= .ok (l.map bv).toArray w.drew:=by
    rcases Nat.eq_zero_or_pos l.length with h0|h0
    · have e0:l=[]:=List.eq_nil_of_length_eq_zero h0
      subst e0;rcases A0 with _|a0
      · exact run_firstCells_none w.drew i.size 0 0 c0
      · exact run_firstCells_some w.drew i.size 0 a0 0 c0 [] (by simp) (by intro _ _ h';simp at h')
    · obtain⟨g,off,rfl,_,_,_,h9⟩:=ho (by omega)
      refine run_firstCells_some w.drew i.size l.length ⟨g,off,none⟩ l.length c0 _ (by simp[h1]) (λj u hu=>?_);have hj:j<l.length:=by have:=(List.getElem?_eq_some_iff.1 hu).1;simpa using this
      rw[Addr.add_lit];refine(h9 j hj).trans ?_;rw[<-hu,List.getElem?_map,List.getD_eq_getElem?_getD,List.getElem?_eq_getElem hj]
      rfl
   have h4:=run_append_grow_src (P:=P) w t t ty e i _ hP.slice hi hz A0 l.length c0 (l.map bv) hc (.slice A m c) m _ hs (by omega) (by omega) (growslice_fits (by omega) (by rw[h2];omega));have hq:=grownCap_ge w (l.length+m) c0 e;have ht:=grownCap_le_maxLen w (l.length+m) c0 e (by omega);refine⟨_,_,none,h4,⟨_,grownCap w (l.length+m) c0 e,by rw[List.length_append,h3],by rw[List.length_append,h3];exact hq,ht,λ_=>⟨w.heap.size,0,rfl,.inr ⟨rfl,rfl⟩,?_,λj _ hj=>⟨?_,?_⟩,λj hj=>?_⟩⟩,⟨rfl,rfl,rfl,by simp,λk hk _=>Below.heap_alloc w.drew _ k hk⟩,λg e=>by cases e⟩
   · simp
   · have hsz:((l.map bv++l2.map bv).toArray++Builtin.zeroCells (Value.int .u8 0).cells (grownCap w (l.length+m) c0 e-(l.length+m))).size=grownCap w (l.length+m) c0 e:=by
      rw[Array.size_append,List.size_toArray,List.length_append,List.length_map,h8,size_zeroCells];show l.length+m+(grownCap w (l.length+m) c0 e-(l.length+m))*1=_;omega
     have e1:=World.cell?_alloc_new w.drew ((l.map bv++l2.map bv).toArray++Builtin.zeroCells (Value.int .u8 0).cells (grownCap w (l.length+m) c0 e-(l.length+m))) e (0+j);refine(congrArg Option.isSome e1).trans ?_;rw[Array.getElem?_eq_getElem (by rw[hsz];omega)]
     rfl
   · exact World.frozen?_alloc_new w.drew _ _ _
   · rw[List.length_append,h3]at hj
     have e1:=World.cell?_alloc_new w.drew ((l.map bv++l2.map bv).toArray++Builtin.zeroCells (Value.int .u8 0).cells (grownCap w (l.length+m) c0 e-(l.length+m))) e (0+j);refine e1.trans ?_;rw[Array.getElem?_append_left (by simp[h3];omega),<-List.map_append,List.getElem?_toArray,List.getElem?_map,Nat.zero_add,List.getD_eq_getElem?_getD,List.getElem?_eq_getElem (by rw[List.length_append,h3];exact hj)]
     rfl
section
variable {P:Program} {ops:Array Oper} {rest:List Oper} {o:Oper} {a:Act} {Q:Exit->Act->World->Prop} {K:Act->World->Prop} {E:Prop} {t e:TypeId}
theorem wpList_app_z (hP:ByteP P t e) (w:World) (hgd:o.guard=none) (s x:Operand) (ho:o.op= .call {callee:=.builtin .append,args:=#[s,x],argTypes:=#[t,t]})
 (own:Nat->Prop) (v:Value) (l:List UInt8) (hs:a.eval s=v) (h:Oz w own v l) (B:Nat) (A:Option Addr) (m c:Nat) (l2:List UInt8) (hx:a.eval x= .slice A m c) (hr:Rd w B A m l2) (hb:l.length+m<=140737488355328)
 (hK:∀A' c' w' row,Oz w' (λg=>own g\/(row=none/\g=w.heap.size)) (.slice A' (l.length+m) c') (l++l2)->w.grownBy w' row->(∀g,row=some g->own g/\g<w.heap.size)->wpList P ops Q rest (a.put o.dst (.slice A' (l.length+m) c')) w'):wpList P ops Q (o::rest) a w:=by
 refine wpList_plain hgd λK h1=>?_;obtain⟨v',w',row,h0,r1,r2,r3⟩:=run_app_z hP w o.type own v l h B A m c l2 hr hb;obtain⟨A',c',rfl,_,_⟩:=r1.form;rw[List.length_append,hr.1]at h0 r1;unfold Oper.wp execOp;simp only[ho,resolve,invoke,builtin,Sem.run_bind,Sem.run_pure,Result.andThen_ok,List.map_toArray,List.map_cons,List.map_nil,hs,hx,h0];exact h1 _ _ (hK A' c' w' row r1 r2 r3)
theorem step_app_z (hP:ByteP P t e) (w:World) (h1:o.guard=none) (s x:Operand) (ho:o.op= .call {callee:=.builtin .append,args:=#[s,x],argTypes:=#[t,t]})
 (own:Nat->Prop) (v:Value) (l:List UInt8) (hs:a.eval s=v) (h:Oz w own v l) (B:Nat) (A:Option Addr) (m c:Nat) (l2:List UInt8) (hx:a.eval x= .slice A m c) (hr:Rd w B A m l2) (hb:l.length+m<=140737488355328)
 (hK:∀A' c' w' row,Oz w' (λg=>own g\/(row=none/\g=w.heap.size)) (.slice A' (l.length+m) c') (l++l2)->w.grownBy w' row->(∀g,row=some g->own g/\g<w.heap.size)->K (a.put o.dst (.slice A' (l.length+m) c')) w'):
 if Region.wanted o (yielded ops a.tmps)=true then Oper.wp P o a w K Q else E:=by
 have hw:Region.wanted o (yielded ops a.tmps)=true:=by simp[Region.wanted,h1]
 rw[if_pos hw];obtain⟨v',w',row,h0,r1,r2,r3⟩:=run_app_z hP w o.type own v l h B A m c l2 hr hb;obtain⟨A',c',rfl,_,_⟩:=r1.form;rw[List.length_append,hr.1]at h0 r1;unfold Oper.wp execOp;simp only[ho,resolve,invoke,builtin,Sem.run_bind,Sem.run_pure,Result.andThen_ok,List.map_toArray,List.map_cons,List.map_nil,hs,hx,h0];exact hK A' c' w' row r1 r2 r3
end
end Go.Own
end

section
namespace Go.Own.Fr
open Go Go.RowKit
theorem ofInt_i64 (a:Nat) (ha:a<9223372036854775808):(BitVec.ofInt 64 (a:Int)).toNat=a:=by
 rw[BitVec.ofInt_natCast,BitVec.toNat_ofNat];exact Nat.mod_eq_of_lt (by omega)
theorem or_nat (a b:Nat) (ha:a<9223372036854775808) (hb:b<9223372036854775808):bits .or .i64 (a:Int) (b:Int)=((a|||b:Nat):Int):=by
 have hx:a|||b<2^63:=Nat.or_lt_two_pow (by omega) (by omega)
 show IntKind.i64.wrap ((BitVec.ofInt 64 (a:Int)|||BitVec.ofInt 64 (b:Int)).toNat:Int)=_;rw[BitVec.toNat_or,ofInt_i64 a ha,ofInt_i64 b hb,IntKind.wrap_i64];omega
theorem and_nat (a b:Nat) (ha:a<9223372036854775808) (hb:b<9223372036854775808):bits .and .i64 (a:Int) (b:Int)=((a&&& b:Nat):Int):=by
 have hx:a&&& b<=a:=Nat.and_le_left;show IntKind.i64.wrap ((BitVec.ofInt 64 (a:Int)&&& BitVec.ofInt 64 (b:Int)).toNat:Int)=_;rw[BitVec.toNat_and,ofInt_i64 a ha,ofInt_i64 b hb,IntKind.wrap_i64];omega
theorem and_low (n:Nat) (h:n<9223372036854775808):bits .and .i64 (n:Int) 2147483647=((n % 2147483648:Nat):Int):=by
 have:=and_nat n 2147483647 h (by omega);rw[show n&&& 2147483647=n % 2147483648 from Nat.and_two_pow_sub_one_eq_mod n 31]at this;exact this
end Go.Own.Fr
end

section
set_option maxHeartbeats 1000000
set_option maxRecDepth 100000
namespace Go.Own.Fr
open Lib (hid)
open Go Go.RowKit Go.Own
theorem byte_of (n q:Nat):((n:Int)/2^(8*q)) % 256=((UInt8.ofNat (n/256^q)).toNat:Int):=by
 have e:(256:Nat)^q=2^(8*q):=by rw[Nat.pow_mul]
 rw[UInt8.toNat_ofNat',e];simp
theorem or_byte (a c:Nat) (ha:a<281474976710656) (hc:c<256):bits .or .i64 ((a:Int)*256) (c:Int)=((a*256+c:Nat):Int):=by
 have h:=or_nat (a*256) c (by omega) (by omega);rw[show a*256|||c=a*256+c by
  have:=Nat.two_pow_add_eq_or_of_lt (i:=8) (b:=c) (by omega) a;rw[show 2^8*a=a*256 by omega]at this;exact this.symm]at h
 rw[<-h];simp
def NumRel (w:World) (base:Nat) (e:TypeId) (v:Value) (m:Nat) (xs:List UInt8) (n k:Nat) (out iv:Value) (wr:World):Prop:=
 ∃(r:Nat) (pre:List UInt8),r<=k/\iv= .int .i64 ((r:Int)-1)/\be n k=pre++be n r/\pre.length+r=k/\Ow wr base e out (m+(k-r)) (xs++pre)/\w.grownBy wr v.ownBlock/\
  (out.ownBlock=v.ownBlock\/∃g,out.ownBlock=some g/\w.heap.size<=g)
end Go.Own.Fr
namespace Go.Proofs.YtkpppjhbmnfmkaaGreatDoor
open Lib (hid)
open Go.RowKit Go.Own Go.Own.Fr
theorem byteInfo:(Tryz.prog.info? 5).map (λi=>(i.zero,i.size,i.bytes))=some (some (.int .u8 0),1,1):=by kernel_rfl
theorem byteP:ByteP Tryz.prog 22 5:=⟨Tryz.underlying22,info_parts byteInfo⟩
theorem fcopied_any (A:Option Addr) (n c:Nat) (l:List UInt8) (w:World) (B:Nat) (hr:Rd w B A n l) (hB:B<=w.heap.size) (hn:n<=1000000000000):
 Calls Tryz.prog 102 #[.slice A n c] w λe w'=>e= .returned (.slice (some ⟨w.heap.size,0,none⟩) n n)/\
  Ow w' w.heap.size 5 (.slice (some ⟨w.heap.size,0,none⟩) n n) n l/\Below w.heap.size w w':=by
 have HR:=hid hr;clear hr;go_enter Tryz.func102,Tryz.ntmps102;go_wp2_with (first
  |(at_make
    refine wpList_mk _ byteP rfl _ _ rfl w.heap.size .i64 .i64 _ n rfl rfl ?_ ?_ (Nat.le_refl _) ?_
    · rfl
    · omega
    intro w1 h2 h3;have h0:Below w.heap.size w w1:=(Below.refl _ _).grown h3 (Nat.le_refl _) (by simp);have h4:=hid ((HR.out.more hB).below h0))
  |(at_builtin
    refine wpList_app_fits _ byteP rfl (.tmp 5) (.tmp 6) rfl w.heap.size w.heap.size 0 n [] rfl h2 w.heap.size A n c l rfl h4.out ?_ ?_
    · omega
    intro w2 h1 h5;have h6:Below w.heap.size w w2:=h0.grown h5 h0.size (by simp)))
 go_ret;simp only[Nat.zero_add,List.nil_append]at h1 ⊢;exact⟨rfl,h1,h6⟩
theorem number_any (v:Value) (m:Nat) (xs:List UInt8) (n k base:Nat) (w:World) (ho:Ow w base 5 v m xs) (h0:base<=w.heap.size) (hm:m<=1000000000000) (hk:k<=8) (hn:n<9223372036854775808):
 Calls Tryz.prog 108 #[v,.int .i64 (n:Int),.int .i64 (k:Int)] w λe w'=>∃v',e= .returned v'/\Ow w' base 5 v' (m+k) (xs++be n k)/\w.grownBy w' v.ownBlock/\
  (v'.ownBlock=v.ownBlock\/∃g,v'.ownBlock=some g/\w.heap.size<=g):=by
 have HO:=hid ho;clear ho;go_enter Tryz.func108,Tryz.ntmps108;go_wp2;go_loopw [0,7] (λout iv wr=>Hid (NumRel w base 5 v m xs n k out iv wr)) (λ_ iv _=>(intOf iv+1).toNat)
 case atStart=>exact hid ⟨k,[],Nat.le_refl _,by go_num,rfl,by simp,by simpa using HO.out,World.grownBy.refl w _,.inl rfl⟩
 case round=>
  obtain⟨r,pre,hr,rfl,h1,hf,ho,hg,h3⟩:=hrel.out;clear hrel;have HB:=hid h1;clear h1;obtain⟨A0,cap0,rfl,_,_,_⟩:=ho.form;have h4:=hid ho;clear ho HO;have HG:=hid hg;clear hg;have HW:=hid h3;clear h3;rcases r with _|q
  · go_wp2
    go_ret;have e:be n k=pre:=by rw[HB.out];simp[be]
    rw[e];exact⟨_,rfl,by simpa using h4.out,HG.out,HW.out⟩
  · have e1:((q+1:Nat):Int)-1=(q:Int):=by omega
    rw[e1];have h8:(0:Int)<=8*(q:Int):=by omega
    have HY:=hid (byte_of n q);have hsz:base<=wr.heap.size:=Nat.le_trans h0 HG.out.size;go_wp2_with (first
     |(at_builtin
       refine wpList_app_any _ byteP rfl (.tmp 14) (.tmp 20) rfl base _ (m+(k-(q+1))) (xs++pre) rfl (h4.out.alloc _) _ _ 1 1 _ rfl (Rd.one _ _ (UInt8.ofNat (n/256^q)) _ HY.out) ?_ ?_ ?_
       · omega
       · simp;omega
       intro A' cap' w2 h5 h6 h7 hh hi;have hc:=hid h5;clear h5;have hd:=hid h6;clear h6;have he:=hid h7;clear h7))
    have e2:m+(k-(q+1))+1=m+(k-q):=by omega
    have h9:=hc.out;rw[List.append_assoc,e2]at h9;rw[e2];refine⟨hid ⟨q,pre++[UInt8.ofNat (n/256^q)],by omega,rfl,?_,by simp;omega,h9,?_,?_⟩,by simp[intOf]⟩
    · rw[HB.out]
      simp[be]
    · refine(grown_alloc HG.out _).andThen hd.out λj hj=>?_
      rcases HW.out with h|⟨g,h,hg⟩
      · exact .inr (h.symm.trans hj)
      · exact .inl (by have h2:=h.symm.trans hj;injection h2 with h2;omega)
    · have hb:=he.out
      rw[e2]at hb;rcases hb with h|h
      · rw[h]
        exact HW.out
      · exact .inr ⟨_,h,by simp;have:=HG.out.size;omega⟩
theorem of_any (A:Option Addr) (n c:Nat) (l:List UInt8) (w:World) (B:Nat) (hr:Rd w B A n l) (hn:n<=4):
 Calls Tryz.prog 113 #[.slice A n c] w λe w'=>e= .returned (.int .i64 (ofB 0 l:Nat))/\w'=w:=by
 have hl:=hr.1;have HR:=hid hr;clear hr;go_enter Tryz.func113,Tryz.ntmps113;go_wp2;go_loopw [3,8] (λnv iv wr=>wr=w/\∃j:Nat,j<=n/\iv= .int .i64 (j:Int)/\nv= .int .i64 (ofB 0 (l.take j):Nat)) (λ_ iv _=>n-(intOf iv).toNat)
 case atStart=>exact⟨rfl,0,Nat.zero_le _,rfl,rfl⟩
 case round=>
  obtain⟨rfl,j,hj,rfl,rfl⟩:=hrel;by_cases h4:j<n
  · obtain⟨ad,rfl,hb,hc⟩:=HR.out.at_ h4
    have ha:ofB 0 (l.take j)<281474976710656:=by
     have h1:=ofB_lt (l.take j) 0;have h2:(l.take j).length<=3:=by rw[List.length_take];omega
     have h3:256^(l.take j).length<=256^3:=Nat.pow_le_pow_right (by omega) h2;omega
    have e:ofB 0 (l.take (j+1))=ofB 0 (l.take j)*256+(l.getD j 0).toNat:=by
     rw[List.take_succ_eq_append_getElem (show j<l.length by omega),ofB_app,ofB_cons,ofB_nil];rw[List.getD,List.getElem?_eq_getElem (show j<l.length by omega)]
     rfl
    have HE:=hid e;clear e;generalize ofB 0 (l.take j)=a at*
    obtain⟨x,hx⟩:∃x:Nat,(l.getD j 0).toNat=x:=⟨_,rfl⟩;have h0:x<256:=by rw[<-hx];exact(l.getD j 0).toNat_lt
    rw[hx]at hc;have HX:=hid hx;clear hx;have ho:=or_byte a x ha h0;go_wp2;refine⟨⟨trivial,j+1,by omega,by go_num,?_⟩,by simp[intOf];omega⟩;rw[HE.out,HX.out];simp
  · go_wp2
    go_ret;have:j=n:=by omega
    subst this;rw[<-hl,List.take_length];exact⟨rfl,rfl⟩
theorem low_any (n:Nat) (w:World) (hn:n<9223372036854775808):Calls Tryz.prog 114 #[.int .i64 (n:Int)] w λe w'=>e= .returned (.int .i64 (low n:Nat))/\w'=w:=by
 have h:=and_low n hn;go_enter Tryz.func114,Tryz.ntmps114;go_wp2;go_ret;exact⟨rfl,rfl⟩
theorem byteOf_yes (n:Int) (w:World) (h0:0<=n) (h1:n<=255):Calls Tryz.prog 106 #[.int .i64 n] w λe w'=>e= .returned (.bool true)/\w'=w:=by
 go_enter Tryz.func106,Tryz.ntmps106;go_wp2;go_ret;exact⟨rfl,rfl⟩
theorem fstream_yes (n:Int) (w:World) (h0:0<=n) (h1:n<=2147483647):Calls Tryz.prog 107 #[.int .i64 n] w λe w'=>e= .returned (.bool true)/\w'=w:=by
 go_enter Tryz.func107,Tryz.ntmps107;go_wp2;go_ret;exact⟨rfl,rfl⟩
end Go.Proofs.YtkpppjhbmnfmkaaGreatDoor
end

section
set_option maxHeartbeats 4000000
set_option maxRecDepth 100000
namespace Go.Own
open Lib (hid)
open Go.RowKit
theorem below_own {B n:Nat} {a b c:World} {e:TypeId} {v:Value} {l:List UInt8} (h:Below B a b) (hB:B<=a.heap.size) (ho:Ow b B e v n l) (hg:b.grownBy c v.ownBlock):Below B a c:=
 h.grown hg (Nat.le_trans hB h.size) λ_ hv=>(ho.lt hv).2
theorem step_app {P:Program} {ops:Array Oper} {o:Oper} {a:Act} {Q:Exit->Act->World->Prop} {K:Act->World->Prop} {E:Prop} {t e:TypeId} (hP:ByteP P t e) (w:World) (h5:o.guard=none) (s x:Operand)
 (ho:o.op= .call {callee:=.builtin .append,args:=#[s,x],argTypes:=#[t,t]}) (base:Nat) (v:Value) (n:Nat) (xs:List UInt8) (hs:a.eval s=v) (h3:Ow w base e v n xs)
 (B:Nat) (A:Option Addr) (m c:Nat) (l:List UInt8) (hx:a.eval x= .slice A m c) (hr:Rd w B A m l) (hb:n+m<=140737488355328) (h0:base<=w.heap.size)
 (h:∀A' cap' w',Ow w' base e (.slice A' (n+m) cap') (n+m) (xs++l)->w.grownBy w' v.ownBlock->((Value.slice A' (n+m) cap').ownBlock=v.ownBlock\/(Value.slice A' (n+m) cap').ownBlock=some w.heap.size)->n+m<=cap'->K (a.put o.dst (.slice A' (n+m) cap')) w'):
 if Region.wanted o (yielded ops a.tmps)=true then Oper.wp P o a w K Q else E:=by
 have hw:Region.wanted o (yielded ops a.tmps)=true:=by simp[Region.wanted,h5]
 rw[if_pos hw];obtain⟨v',w',h4,r1,r2,r3⟩:=run_app_any (P:=P) w hP o.type base v n xs h3 B A m c l hr hb h0;obtain⟨A',cap',rfl,h1,h2,_⟩:=r1.form;unfold Oper.wp execOp;simp only[ho,resolve,invoke,builtin,Sem.run_bind,Sem.run_pure,Result.andThen_ok,List.map_toArray,List.map_cons,List.map_nil,hs,hx,h4];exact h A' cap' w' r1 r2 r3 h1
theorem Rd.lits (w:World) (cs:Array Value) (bs:List UInt8) (e:TypeId) (hv:cs.toList=bs.map bv):Rd (w.alloc (.cells cs e)) (w.heap.size+1) (some ⟨w.heap.size,0,none⟩) bs.length bs:=by
 refine⟨rfl,λ_=>⟨_,rfl,Nat.lt_succ_self _,λj hj=>?_⟩⟩;rw[Addr.add_lit,Nat.zero_add];have hb:Blk (w.alloc (.cells cs e)) w.heap.size e cs:=Blk.new w e cs;rw[hb.cell,<-Array.getElem?_toList,hv,List.getElem?_map,List.getElem?_eq_getElem hj];simp[bv,List.getD,hj]
theorem Rd.marks (w:World) (cs:Array Value) (bs:List UInt8) (e:TypeId) (fr:Nat×Nat) (hv:cs.toList=bs.map bv):Rd (w.alloc (.cells cs e fr)) (w.heap.size+1) (some ⟨w.heap.size,0,none⟩) bs.length bs:=by
 refine⟨rfl,λ_=>⟨_,rfl,Nat.lt_succ_self _,λj hj=>?_⟩⟩;rw[Addr.add_lit,Nat.zero_add,World.cell?_alloc_mark,<-Array.getElem?_toList,hv,List.getElem?_map,List.getElem?_eq_getElem hj];simp[bv,List.getD,hj]
end Go.Own
namespace Go.Proofs.YtkpppjhbmnfmkaaGreatDoor
open Lib (hid)
open Go.RowKit Go.Own Go.Own.Fr
attribute [local go_sem] Oper.semAt_some
theorem rd_two (w:World) (t f:Nat) (ht:t<=255) (hf:f<=255):Rd (w.alloc (.cells #[.int .u8 (t:Int),.int .u8 (f:Int)] 5)) (w.heap.size+1) (some ⟨w.heap.size,0,none⟩) 2 [UInt8.ofNat t,UInt8.ofNat f]:=by
 refine Rd.lits w _ [UInt8.ofNat t,UInt8.ofNat f] _ ?_;simp[bv];omega
theorem put_size (n m:Nat) (hn:n<=1000000000) (hm:m<16777216):wrap64 (wrap64 ((n:Int)+9)+(m:Int))=((n+9+m:Nat):Int):=by
 unfold wrap64;omega
theorem fput_any (A A2:Option Addr) (n c m c2 t f s:Nat) (l p:List UInt8) (w:World) (B B2:Nat) (hr:Rd w B A n l) (hB:B<=w.heap.size) (hj:Rd w B2 A2 m p) (hX:B2<=w.heap.size) (hn:n<=1000000000) (hm:m<16777216)
 (ht:t<=255) (hf:f<=255) (hs:s<=2147483647):
 Calls Tryz.prog 67 #[.slice A n c,.agg #[.int .i64 (t:Int),.int .i64 (f:Int),.int .i64 (s:Int),.slice A2 m c2]] w λe w'=>∃A' c',e= .returned (.tuple #[.slice A' (n+(9+m)) c',.nilIface])/\
  Ow w' w.heap.size 5 (.slice A' (n+(9+m)) c') (n+(9+m)) (l++frameB t f s p)/\Below w.heap.size w w':=by
 have HR:=hid hr;have hY:=hid hj;have hZ:=hj.1;clear hr hj;go_enter Tryz.func67,Tryz.ntmps67;go_upto_region 1 with fail;have HX:=hid (Blk.new w 24 #[.int .i64 (t:Int),.int .i64 (f:Int),.int .i64 (s:Int),.slice A2 m c2]);have hc:=hid ((Below.refl w.heap.size w).alloc (Nat.le_refl _) (.cells #[.int .i64 (t:Int),.int .i64 (f:Int),.int .i64 (s:Int),.slice A2 m c2] 24));have hz:(w.alloc (.cells #[.int .i64 (t:Int),.int .i64 (f:Int),.int .i64 (s:Int),.slice A2 m c2] 24)).heap.size=w.heap.size+1:=by simp
 generalize w.alloc (.cells #[.int .i64 (t:Int),.int .i64 (f:Int),.int .i64 (s:Int),.slice A2 m c2] 24)=w0 at HX hc hz ⊢;have h7:=hid (λW (hW:Below w0.heap.size w0 W)=>(show W.cell? ⟨w.heap.size,0,none⟩=some (.int .i64 (t:Int))/\W.cell? ⟨w.heap.size,1,none⟩=some (.int .i64 (f:Int))/\W.cell? ⟨w.heap.size,2,none⟩=some (.int .i64 (s:Int))/\W.cell? ⟨w.heap.size,3,none⟩=some (.slice A2 m c2)from
  have h:=HX.out.below hW (by omega)
  ⟨h.cell 0,h.cell 1,h.cell 2,h.cell 3⟩))
 obtain⟨c0,c1,c2',c3⟩:=h7.out w0 (Below.refl _ _);have h0:(0:Int)<=(t:Int):=by omega
 have h1:(t:Int)<=255:=by omega
 have h2:(0:Int)<=(f:Int):=by omega
 have h3:(f:Int)<=255:=by omega
 have h4:(0:Int)<=(s:Int):=by omega
 have h5:(s:Int)<=2147483647:=by omega
 have h6:((16777216:Int)<=(m:Int))=False:=by simp;omega
 have H0:=hid (byteOf_yes (t:Int) w0 h0 h1);have H1:=hid (byteOf_yes (f:Int) w0 h2 h3);have H2:=hid (fstream_yes (s:Int) w0 h4 h5);have HW:=hid (put_size n m hn hm);have HN:=hid hn;have HM:=hid hm;have HS:=hid hs;have HZ:=hid hz;clear h0 h1 h2 h3 h4 h5 hn hm hs hz;go_wp2_with fail;refine H0.out.mono ?_;rintro e w' ⟨rfl,hw⟩;subst w';go_wp2_with fail;refine H1.out.mono ?_;rintro e w' ⟨rfl,hw⟩;subst w';go_wp2_with fail;refine H2.out.mono ?_;rintro e w' ⟨rfl,hw⟩;subst w';go_upto_region 5 with(first
  |(at_make
    refine wpList_mk _ byteP rfl _ _ rfl w0.heap.size .i64 .i64 _ (n+9+m) rfl rfl ?_ ?_ (Nat.le_refl _) ?_
    · exact HW.out
    · have:=HN.out;have:=HM.out;omega
    intro w1 hG hH;have hd:Below w0.heap.size w0 w1:=(Below.refl _ _).grown hH (Nat.le_refl _) (by simp);have hI:=hid (((HR.out.more hB).below hc.out).below (hd.mono (by have:=HZ.out;omega))))
  |(at_builtin
    refine wpList_app_fits _ byteP rfl (.tmp 37) (.tmp 38) rfl w0.heap.size w0.heap.size 0 (n+9+m) [] rfl hG w.heap.size A n c l rfl hI.out ?_ ?_
    · omega
    intro w2 he hJ;simp only[Nat.zero_add,List.nil_append]at he;have hh:Below w0.heap.size w0 w2:=hd.grown hJ hd.size (by simp);have hK:=hid he;obtain⟨c0,c1,c2',c3⟩:=h7.out w2 hh;have hL:=hid hh;have hM:=hid (number_any (.slice (some ⟨w0.heap.size,0,none⟩) n (n+9+m)) n l m 3 w0.heap.size w2 he hh.size (by have:=HN.out;omega) (by omega) (by have:=HM.out;omega));clear hG hH hd hI he hJ hh)
  |(go_at_call 108
    refine hM.out.mono ?_;rintro e w3 ⟨v3,rfl,hk,hN,H3⟩;obtain⟨A3,cap3,rfl,_,_,_⟩:=hk.form;have hl:=below_own hL.out (Nat.le_refl _) hK.out hN;obtain⟨c0,c1,c2',c3⟩:=h7.out w3 hl;have hq:=hid hk;have hi:=hid hl;clear hK hL hM hk hN H3 hl)
  |fail)
 go_upto_region 6 with(first
  |(at_builtin
    refine wpList_app_any _ byteP rfl (.tmp 45) (.tmp 52) rfl w0.heap.size _ (n+3) (l++be m 3) rfl (hq.out.alloc _) _ _ 2 2 [UInt8.ofNat t,UInt8.ofNat f] rfl (rd_two _ t f ht hf) ?_ ?_ ?_
    · have:=HN.out;omega
    · have:=hi.out.size;simp;omega
    intro A4 cap4 w4 hO hP _ _ _;have hu:=below_own (hi.out.alloc (hi.out.size) _) (Nat.le_refl _) (hq.out.alloc _) hP;have h9:=hid hu;have hA:=hid hO;obtain⟨c0,c1,c2',c3⟩:=h7.out w4 hu;clear hO hP hu hi hq)
  |fail)
 have hQ:n+3+2<=1000000000000:=by have:=HN.out;omega
 have H4:=hid (λ(W:World) (hW:Below w4.heap.size w4 W)=>number_any (.slice A4 (n+3+2) cap4) (n+3+2) ((l++be m 3)++[UInt8.ofNat t,UInt8.ofNat f]) s 4 w0.heap.size W (hA.out.below hW λg hg=>(hA.out.lt hg).1) (Nat.le_trans h9.out.size hW.size) hQ (by omega) (by have:=HS.out;omega));have H5:=hid ((h7.out w4 h9.out).2.2);have hD:=hid ((h7.out w4.drew ⟨h9.out.os,h9.out.tape,h9.out.output,h9.out.size,h9.out.block⟩).2.2);clear c0 c1 c2' c3 hQ;go_region_held3 (λW'=>W'.cell? ⟨w.heap.size,2,none⟩=some (.int .i64 (s:Int))/\W'.cell? ⟨w.heap.size,3,none⟩=some (.slice A2 m c2)) (first|with_reducible exact H5.out|with_reducible exact hD.out|with_reducible exact H7.out|with_reducible exact hE.out|with_reducible exact H8.out|with_reducible exact hF.out) (first
  |(go_at_call 108
    refine(H4.out _ (bdN (Below.refl _ _) 1)).mono ?_;rintro e w5 ⟨v5,rfl,hC,hR,Hc⟩;obtain⟨A5,cap5,rfl,_,_,_⟩:=hC.form;have h8:=below_own (bdN h9.out 1) (Nat.le_refl _) (show Ow (w4.drewN 1) w0.heap.size 5 _ _ _ from hA.out) hR;have hS:=hid h8;have hT:=hid hC;have H7:=hid ((h7.out w5 h8).2.2);have hE:=hid ((h7.out w5.drew ⟨h8.os,h8.tape,h8.output,h8.size,h8.block⟩).2.2);have H9:=hid (((hY.out.more hX).below hc.out).below (h8.mono (by have:=HZ.out;omega)));clear hC hR h8)
  |(refine step_app byteP _ (by rfl) (.tmp 57) (.tmp 59) (by rfl) w0.heap.size _ (n+3+2+4) (((l++be m 3)++[UInt8.ofNat t,UInt8.ofNat f])++be s 4) (by rfl) hT.out w.heap.size A2 m c2 p (by rfl) H9.out ?_ ?_ ?_
    · have:=HN.out;have:=HM.out;omega
    · exact hS.out.size
    intro A6 cap6 w6 hU hV _ _;have hb:=below_own hS.out (Nat.le_refl _) hT.out hV;have Ha:=hid hb;have Hb:=hid hU;have H8:=hid ((h7.out w6 hb).2.2);have hF:=hid ((h7.out w6.drew ⟨hb.os,hb.tape,hb.output,hb.size,hb.block⟩).2.2);clear hU hV hb)
  |fail)
 go_wp2;go_ret2;have e1:n+3+2+4+m=n+(9+m):=by omega
 have e2:(((l++be m 3)++[UInt8.ofNat t,UInt8.ofNat f])++be s 4)++p=l++frameB t f s p:=by simp[frameB,hZ]
 have ho:=Hb.out;rw[e1,e2]at ho;rw[e1];exact⟨_,_,rfl,ho.base (by have:=HZ.out;omega),hc.out.trans (Ha.out.mono (by have:=HZ.out;omega))⟩
end Go.Proofs.YtkpppjhbmnfmkaaGreatDoor
end

section
set_option maxHeartbeats 8000000
set_option maxRecDepth 100000
namespace Go.Own
open Lib (hid)
open Go.RowKit
theorem run_mid {P:Program} {t e:TypeId} (hP:ByteP P t e) (A:Option Addr) (n c k q:Nat) (hk:k<=q) (hq:q<=c) (W:World):
 (Instr.slice t (.slice A n c) (some (.int .i64 (k:Int))) (some (.int .i64 (q:Int))) none).run P W= .ok (.slice (if c=k then A else A.map λx=>x.add k) (q-k) (c-k)) W:=by
 obtain⟨i,hi,hz,h1,h2⟩:=hP.info;simp[Instr.slice,run_underlying hP.slice,Instr.sliceBounds,run_sliceBound,sizeOf,typeInfo,hi,h1,Result.andThen,show(q:Int)<=c by omega,show(k:Int)<=q by omega]
theorem cut_mid {P:Program} {t e:TypeId} (hP:ByteP P t e) {w:World} {B n c k m:Nat} {A:Option Addr} {l:List UInt8} (h:Rd w B A n l) (x y:Int) (hx:x=(k:Int)) (hy:y=((k+m:Nat):Int)) (hk:k+m<=n) (hc:n<=c):
 ∃A',Rd w B A' m ((l.drop k).take m)/\∀W:World,(Instr.slice t (.slice A n c) (some (.int .i64 x)) (some (.int .i64 y)) none).run P W= .ok (.slice A' m (c-k)) W:=
 ⟨_,h.sub hk hc,λW=>by rw[hx,hy,run_mid hP A n c k (k+m) (by omega) (by omega) W,show k+m-k=m by omega]⟩
theorem cut_head {P:Program} {t e:TypeId} (hP:ByteP P t e) {w:World} {B n c k:Nat} {A:Option Addr} {l:List UInt8} (h:Rd w B A n l) (x:Int) (hx:x=(k:Int)) (hk:k<=n) (hc:n<=c):
 ∃A',Rd w B A' k (l.take k)/\∀W:World,(Instr.slice t (.slice A n c) none (some (.int .i64 x)) none).run P W= .ok (.slice A' k c) W:=by
 refine⟨if c=0 then A else A.map λx=>x.add 0,?_,λW=>?_⟩
 · have:=h.sub (k:=0) (u:=k) (c:=c) (by omega) hc
   simpa using this
 · obtain⟨i,hi,hz,h1,h2⟩:=hP.info
   subst hx;simp[Instr.slice,run_underlying hP.slice,Instr.sliceBounds,run_sliceBound,sizeOf,typeInfo,hi,h1,Result.andThen,show(k:Int)<=c by omega]
theorem Blk.four_put {w:World} {g:Nat} {t:TypeId} {cs:Array Value} (h:Blk w g t cs) (hs:cs.size=4) (v0 v1 v2 v3:Value):Blk ((((w.setCell ⟨g,0,none⟩ v0).setCell ⟨g,1,none⟩ v1).setCell ⟨g,2,none⟩ v2).setCell ⟨g,3,none⟩ v3) g t #[v0,v1,v2,v3]:=by
 have e:((((cs.setIfInBounds 0 v0).setIfInBounds 1 v1).setIfInBounds 2 v2).setIfInBounds 3 v3)= #[v0,v1,v2,v3]:=by
  apply Array.ext
  · simp[hs]
  · intro i h1 h2
    simp at h2;have:i=0\/i=1\/i=2\/i=3:=by omega
    rcases this with rfl|rfl|rfl|rfl<;>simp[Array.getElem_setIfInBounds,hs]
 rw[<-e];exact(((h.put 0 v0).put 1 v1).put 2 v2).put 3 v3
theorem below_drew {B:Nat} {a w:World} (h:Below B a w):Below B a w.drew:=⟨h.os,h.tape,h.output,h.size,h.block⟩
theorem cell_four (w:World) {g:Nat} {p:Addr} (hp:p.block≠g) (v0 v1 v2 v3:Value):((((w.setCell ⟨g,0,none⟩ v0).setCell ⟨g,1,none⟩ v1).setCell ⟨g,2,none⟩ v2).setCell ⟨g,3,none⟩ v3).cell? p=w.cell? p:=by
 rw[World.cell?_setCell_other _ ⟨g,3,none⟩ p v3 (λe=>hp (by rw[<-e])),World.cell?_setCell_other _ ⟨g,2,none⟩ p v2 (λe=>hp (by rw[<-e])),World.cell?_setCell_other _ ⟨g,1,none⟩ p v1 (λe=>hp (by rw[<-e])),World.cell?_setCell_other _ ⟨g,0,none⟩ p v0 (λe=>hp (by rw[<-e]))]
theorem grown_four (w:World) (g:Nat) (v0 v1 v2 v3:Value):w.grownBy ((((w.setCell ⟨g,0,none⟩ v0).setCell ⟨g,1,none⟩ v1).setCell ⟨g,2,none⟩ v2).setCell ⟨g,3,none⟩ v3) (some g):=
 grown_setCell (grown_setCell (grown_setCell (grown_setCell (World.grownBy.refl w (some g)) 0 v0) 1 v1) 2 v2) 3 v3
theorem below_four {B:Nat} {a w:World} {g:Nat} (h:Below B a w) (hg:B<=g) (v0 v1 v2 v3:Value):Below B a ((((w.setCell ⟨g,0,none⟩ v0).setCell ⟨g,1,none⟩ v1).setCell ⟨g,2,none⟩ v2).setCell ⟨g,3,none⟩ v3):=
 (((h.setCell (p:=⟨g,0,none⟩) hg v0).setCell (p:=⟨g,1,none⟩) hg v1).setCell (p:=⟨g,2,none⟩) hg v2).setCell (p:=⟨g,3,none⟩) hg v3
end Go.Own
namespace Go.Proofs.YtkpppjhbmnfmkaaGreatDoor
open Lib (hid)
open Go.RowKit Go.Own Go.Own.Fr
theorem wrap_nine (m:Nat) (h:m<=16777215):wrap64 (9+(m:Int))=9+(m:Int):=by
 unfold wrap64;omega
theorem wrapI_nine (m:Nat) (h:m<=16777215):IntKind.i64.wrap (9+(m:Int))=9+(m:Int):=by
 rw[IntKind.wrap_i64];omega
theorem results_get (tmps:Array Value) (w:World) (g:Nat) (a b c d u v:Value) (ht:tmps[4]?=some (.pointer (some ⟨g,0,none⟩))) (h5:tmps[5]?=some u) (h6:tmps[6]?=some v) (hb:Blk w g 24 #[a,b,c,d]):
 (results Tryz.f71 tmps).run Tryz.prog w= .ok (.tuple #[.agg #[a,b,c,d],u,v]) w:=by
 have c0:w.cell? ⟨g,0,none⟩=some a:=hb.cell 0;have c1:w.cell? ⟨g,1,none⟩=some b:=hb.cell 1;have c2:w.cell? ⟨g,2,none⟩=some c:=hb.cell 2;have c3:w.cell? ⟨g,3,none⟩=some d:=hb.cell 3;simp[results,Tryz.results71,go_sem,ht,h5,h6,c0,c1,c2,c3]
theorem fget_few (A:Option Addr) (n c:Nat) (l:List UInt8) (w:World) (B:Nat) (most:Nat) (eE:Value) (hr:Rd w B A n l) (hB:B<=w.heap.size) (hc:n<=c) (hn:n<9\/(ofB 0 (l.take 3)<=most/\n<9+ofB 0 (l.take 3))) (hm:most<=16777215)
 (he:w.cell? ⟨10,0,none⟩=some eE) (hg:10<w.heap.size):
 Calls Tryz.prog 71 #[.slice A n c,.int .i64 (most:Int)] w λe w'=>e= .returned (.tuple #[.agg #[.int .i64 0,.int .i64 0,.int .i64 0,.slice none 0 0],.int .i64 0,eE])/\Below w.heap.size w w':=by
 have HR:=hid hr;clear hr;have HM:=hid hm;clear hm;go_enter Tryz.func71,Tryz.ntmps71;go_upto_region 1 with fail;have HX:=hid (Blk.new w 24 #[.int .i64 0,.int .i64 0,.int .i64 0,.slice none 0 0]);have h0:=hid ((Below.refl w.heap.size w).alloc (Nat.le_refl _) (.cells #[.int .i64 0,.int .i64 0,.int .i64 0,.slice none 0 0] 24));have h2:(w.alloc (.cells #[.int .i64 0,.int .i64 0,.int .i64 0,.slice none 0 0] 24)).cell? ⟨10,0,none⟩=some eE:=(h0.out.cell (p:=⟨10,0,none⟩) hg).trans he;generalize w.alloc (.cells #[.int .i64 0,.int .i64 0,.int .i64 0,.slice none 0 0] 24)=w0 at HX h0 h2 ⊢;have h3:=hid ((HR.out.more hB).below h0.out);have f0:=HX.out.frozen 0;have f1:=HX.out.frozen 1;have f2:=HX.out.frozen 2;have f3:=HX.out.frozen 3;have c0:w0.cell? ⟨w.heap.size,0,none⟩=_:=HX.out.cell 0;have c1:w0.cell? ⟨w.heap.size,1,none⟩=_:=HX.out.cell 1;have c2:w0.cell? ⟨w.heap.size,2,none⟩=_:=HX.out.cell 2;have c3:w0.cell? ⟨w.heap.size,3,none⟩=_:=HX.out.cell 3;simp only[List.getElem?_toArray,List.getElem?_cons_zero,List.getElem?_cons_succ]at c0 c1 c2 c3;by_cases h9:n<9
 · have h4:((n:Int)<9)=True:=by simp;omega
   go_upto_region 2 with fail;go_region;all_goals
    go_wp2;refine bodyPost_ret (results_get _ _ w.heap.size _ _ _ _ _ _ rfl rfl rfl (Blk.four_put HX.out rfl _ _ _ _)) rfl ?_;exact⟨rfl,below_drew (below_four h0.out (Nat.le_refl _) _ _ _ _)⟩
 · have h4:((n:Int)<9)=False:=by simp;omega
   obtain⟨A',h1,h5⟩:=cut_head byteP h3.out (3:Int) (k:=3) rfl (by omega) hc;have HO:=hid (of_any A' 3 c (l.take 3) w0 _ h1 (by omega));obtain⟨m,hm⟩:∃m,ofB 0 (l.take 3)=m:=⟨_,rfl⟩;rw[hm]at HO hn;have h7:((m:Int)>(most:Int))=False:=by simp;omega
   have h6:((most:Int)<(m:Int))=False:=by simp;omega
   have h8:((n:Int)<wrap64 (9+(m:Int)))=True:=by rw[wrap_nine m (by have:=HM.out;omega)];simp;omega
   clear hm hn h1;go_upto_region 7 with(first
    |(go_at_call 113
      refine HO.out.mono ?_;rintro e w' ⟨rfl,hw⟩;subst w')
    |fail)
   go_region;all_goals
    go_wp2;refine bodyPost_ret (results_get _ _ w.heap.size _ _ _ _ _ _ rfl rfl rfl (Blk.four_put HX.out rfl _ _ _ _)) rfl ?_;exact⟨rfl,below_drew (below_four h0.out (Nat.le_refl _) _ _ _ _)⟩
theorem fget_any (A:Option Addr) (n c:Nat) (l:List UInt8) (w:World) (B:Nat) (most m:Nat) (hr:Rd w B A n l) (hB:B<=w.heap.size) (hc:n<=c) (hm:ofB 0 (l.take 3)=m) (h1:m<=most) (h2:9+m<=n) (h3:most<=16777215):
 Calls Tryz.prog 71 #[.slice A n c,.int .i64 (most:Int)] w λe w'=>∃A' c',e= .returned (.tuple #[.agg #[.int .i64 ((l.getD 3 0).toNat:Int),.int .i64 ((l.getD 4 0).toNat:Int),.int .i64 (low (ofB 0 ((l.drop 5).take 4)):Nat),.slice A' m c'],.int .i64 (9+m:Nat),.nilIface])/\
  Ow w' w.heap.size 5 (.slice A' m c') m ((l.drop 9).take m)/\Below w.heap.size w w':=by
 obtain⟨ad,rfl,hl,hn⟩:=hr.at_ (k:=3) (by omega);have ho:w.cell? (ad.add 4)=some (.int .u8 ((l.getD 4 0).toNat:Int)):=by
  obtain⟨ad',e,_,h⟩:=hr.at_ (k:=4) (by omega);injection e with e
  subst e;exact h
 have HR:=hid hr;clear hr;have h5:=hid (show w.cell? (ad.add 3)=some (.int .u8 ((l.getD 3 0).toNat:Int))/\w.cell? (ad.add 4)=some (.int .u8 ((l.getD 4 0).toNat:Int))from⟨hn,ho⟩);have h7:=hid (show ad.block<w.heap.size from Nat.lt_of_lt_of_le hl hB);clear hn ho hl;have hS:((3:Int)<(n:Int))=True:=by simp;omega
 have hT:((4:Int)<(n:Int))=True:=by simp;omega
 have hU:((most:Int)<(m:Int))=False:=by simp;omega
 have hV:((n:Int)<9+(m:Int))=False:=by simp;omega
 have hX:wrap64 (9+(m:Int))=9+(m:Int):=wrap_nine m (by omega);have hO:IntKind.i64.wrap (9+(m:Int))=9+(m:Int):=wrapI_nine m (by omega);have hY:((n:Int)<9)=False:=by simp;omega
 have hi:9+(m:Int)=((9+m:Nat):Int):=by omega
 have hI:=hid hi;have HS:=hid (show 9+m<=n/\m<=16777215 from⟨h2,by omega⟩);have h6:ofB 0 ((l.drop 5).take 4)<9223372036854775808:=by
  have h1:=ofB_lt ((l.drop 5).take 4) 0;have h2:((l.drop 5).take 4).length<=4:=List.length_take_le _ _;have h3:256^((l.drop 5).take 4).length<=256^4:=Nat.pow_le_pow_right (by omega) h2;omega
 obtain⟨v5,hq⟩:∃v,ofB 0 ((l.drop 5).take 4)=v:=⟨_,rfl⟩;rw[hq]at h6 ⊢;have hJ:=hid (λW=>low_any v5 W h6);clear h6;obtain⟨x3,hs⟩:∃x:Int,((l.getD 3 0).toNat:Int)=x:=⟨_,rfl⟩;obtain⟨x4,ht⟩:∃x:Int,((l.getD 4 0).toNat:Int)=x:=⟨_,rfl⟩;have r3:0<=x3:=by omega
 have r3':x3<256:=by have:=(l.getD 3 0).toNat_lt;omega
 have r4:0<=x4:=by omega
 have r4':x4<256:=by have:=(l.getD 4 0).toNat_lt;omega
 rw[hs,ht]at h5 ⊢;have hP:IntKind.i64.wrap x3=x3:=by rw[IntKind.wrap_i64];omega
 have hQ:IntKind.i64.wrap x4=x4:=by rw[IntKind.wrap_i64];omega
 clear hs ht;go_enter Tryz.func71,Tryz.ntmps71;go_upto_region 1 with fail;have HX:=hid (Blk.new w 24 #[.int .i64 0,.int .i64 0,.int .i64 0,.slice none 0 0]);have h9:=hid ((Below.refl w.heap.size w).alloc (Nat.le_refl _) (.cells #[.int .i64 0,.int .i64 0,.int .i64 0,.slice none 0 0] 24));have HZ:=hid (show(w.alloc (.cells #[.int .i64 0,.int .i64 0,.int .i64 0,.slice none 0 0] 24)).heap.size=w.heap.size+1 by simp);generalize w.alloc (.cells #[.int .i64 0,.int .i64 0,.int .i64 0,.slice none 0 0] 24)=w0 at HX h9 HZ ⊢;have hj:=hid ((HR.out.more hB).below h9.out);obtain⟨A3,hu,hR⟩:=cut_head byteP hj.out (3:Int) (k:=3) rfl (by omega) hc;have HO:=hid (of_any A3 3 c (l.take 3) w0 _ hu (by omega));rw[hm]at HO;obtain⟨A4,hA,hG⟩:=cut_mid byteP hj.out (5:Int) (9:Int) (k:=5) (m:=4) rfl rfl (by omega) hc;obtain⟨A9,hC,hH⟩:=cut_mid byteP hj.out (9:Int) (9+(m:Int)) (k:=9) (m:=m) rfl hi h2 hc;have hK:=hid hA;have hL:=hid hC;clear hu hA hC hm h1 h2 h3 hc hi;go_upto_region 8 with(first
  |(go_at_call 113
    refine HO.out.mono ?_;rintro e w' ⟨rfl,hw⟩;subst w')
  |fail)
 have he:=hid (λW (hW:Below w0.heap.size w0 W)=>(show W.cell? ⟨ad.block,ad.off+3,none⟩=some (.int .u8 x3)/\W.cell? ⟨ad.block,ad.off+4,none⟩=some (.int .u8 x4)from
  have e3:W.cell? (ad.add 3)=w.cell? (ad.add 3):=(hW.cell (by rw[add_block];have:=h7.out;have:=HZ.out;omega)).trans (h9.out.cell (by rw[add_block];exact h7.out));have e4:W.cell? (ad.add 4)=w.cell? (ad.add 4):=(hW.cell (by rw[add_block];have:=h7.out;have:=HZ.out;omega)).trans (h9.out.cell (by rw[add_block];exact h7.out))
  ⟨e3.trans h5.out.1,e4.trans h5.out.2⟩))
 have hD:=hid (λW (hW:Below w0.heap.size w0 W)=>HX.out.below hW HX.out.lt);have hE:=hid (λW (hW:Below w0.heap.size w0 W)=>of_any A4 4 (c-5) ((l.drop 5).take 4) W _ (hK.out.below (hW.mono (by have:=HZ.out;omega))) (by omega));have hM:=hid (λW (hW:Below w0.heap.size w0 W)=>fcopied_any A9 m (c-9) ((l.drop 9).take m) W _ (hL.out.below (hW.mono (by have:=HZ.out;omega))) (Nat.le_trans (by have:=HZ.out;omega) hW.size) (by have:=HS.out;omega));rw[hq]at hE;have hf:=hid (he.out w0 (Below.refl _ _));have hk:=hid (he.out w0.drew (below_drew (Below.refl _ _)));have h4:=hid (Below.refl w0.heap.size w0);have hh:=hf;have hb:=hf;have hd:=hid (λ(_ _ _ _:Value)=>hf.out);go_region_held3 (λW'=>W'.cell? ⟨ad.block,ad.off+3,none⟩=some (.int .u8 x3)/\W'.cell? ⟨ad.block,ad.off+4,none⟩=some (.int .u8 x4)) (first|with_reducible exact hf.out|with_reducible exact hk.out|with_reducible exact hh.out|with_reducible exact hb.out|with_reducible exact hd.out _ _ _ _) (first
  |(go_at_call 113
    refine(hE.out _ (by first|exact below_drew (Below.refl _ _)|exact Below.refl _ _|exact h4.out|exact below_drew h4.out)).mono ?_;rintro e w' ⟨rfl,hw⟩;subst w')
  |(go_at_call 114
    refine(hJ.out _).mono ?_;rintro e w' ⟨rfl,hw⟩;subst w')
  |(go_at_call 102
    refine(hM.out _ (by first|exact below_drew (Below.refl _ _)|exact Below.refl _ _)).mono ?_;rintro e w5 ⟨rfl,hF,h8⟩;have hN:=hid (show Ow w5 w0.heap.size 5 _ _ _ from hF);have h4:=hid (show Below w0.heap.size w0 w5 from⟨h8.os,h8.tape,h8.output,h8.size,h8.block⟩);clear hF h8;have hh:=hid (he.out w5 h4.out);have hb:=hid (he.out w5.drew (below_drew h4.out));have hd:=hid (λ(v0 v1 v2 v3:Value)=>(show((((w5.setCell ⟨w.heap.size,0,none⟩ v0).setCell ⟨w.heap.size,1,none⟩ v1).setCell ⟨w.heap.size,2,none⟩ v2).setCell ⟨w.heap.size,3,none⟩ v3).cell? ⟨ad.block,ad.off+3,none⟩=some (.int .u8 x3)/\((((w5.setCell ⟨w.heap.size,0,none⟩ v0).setCell ⟨w.heap.size,1,none⟩ v1).setCell ⟨w.heap.size,2,none⟩ v2).setCell ⟨w.heap.size,3,none⟩ v3).cell? ⟨ad.block,ad.off+4,none⟩=some (.int .u8 x4)from
     ⟨(cell_four w5 (by have:=h7.out;show ad.block≠w.heap.size;omega) v0 v1 v2 v3).trans hh.out.1,(cell_four w5 (by have:=h7.out;show ad.block≠w.heap.size;omega) v0 v1 v2 v3).trans hh.out.2⟩))
    have h0:=hD.out w5 h4.out;have f0:=h0.frozen 0;have f1:=h0.frozen 1;have f2:=h0.frozen 2;have f3:=h0.frozen 3;have c0:w5.cell? ⟨w.heap.size,0,none⟩=_:=h0.cell 0;have c1:w5.cell? ⟨w.heap.size,1,none⟩=_:=h0.cell 1;have c2:w5.cell? ⟨w.heap.size,2,none⟩=_:=h0.cell 2;have c3:w5.cell? ⟨w.heap.size,3,none⟩=_:=h0.cell 3;simp only[List.getElem?_toArray,List.getElem?_cons_zero,List.getElem?_cons_succ]at c0 c1 c2 c3;clear h0)
  |fail)
 all_goals
  go_wp2;refine bodyPost_ret (results_get _ _ w.heap.size _ _ _ _ _ _ rfl rfl rfl (Blk.four_put (hD.out w5 h4.out) rfl _ _ _ _)) rfl ?_;rw[<-hI.out];refine⟨_,_,rfl,?_,below_four (h9.out.trans (h4.out.mono (by have:=HZ.out;omega))) (Nat.le_refl _) _ _ _ _⟩;exact(hN.out.grown (grown_four w5 w.heap.size _ _ _ _) (.inr (by
   intro e;have e2:some w0.heap.size=some w.heap.size:=e;injection e2 with e2
   have:=HZ.out;omega))).base (by have:=HZ.out;omega)
end Go.Proofs.YtkpppjhbmnfmkaaGreatDoor
end

section
set_option maxHeartbeats 1000000
set_option maxRecDepth 100000
namespace Go.Proofs.YtkpppjhbmnfmkaaGreatDoor
open Lib (hid)
open Go.RowKit Go.Own Go.Own.Fr
theorem hdrInfo:(Tryz.prog.info? 63).map (λi=>(i.zero,i.size,i.bytes))=some (some (.agg #[.string ⟨#[]⟩,.string ⟨#[]⟩,.bool false]),3,40):=by kernel_rfl
def Ring0 (cs:Array Value):Prop:=cs.size=384/\∀j,j<128->cs[j*3]?=some (.string ⟨#[]⟩)/\cs[j*3+1]?=some (.string ⟨#[]⟩)/\cs[j*3+2]?=some (.bool false)
theorem make_ring:∃cs:Array Value,Ring0 cs/\∀W:World,(Instr.makeSlice 41 (.int .i64 128) (.int .i64 128)).run Tryz.prog W= .ok (.slice (some ⟨W.heap.size,0,none⟩) 128 128) (W.alloc (.cells cs 63)):=by
 obtain⟨i,hi,hz,h1,h2⟩:=info_parts hdrInfo;refine⟨madeCells (Value.agg #[.string ⟨#[]⟩,.string ⟨#[]⟩,.bool false]).cells ((128:Int).toNat*i.size),?_,λW=>?_⟩
 · rw[h1]
   refine⟨by simp[madeCells],λj hj=>?_⟩;have e:((128:Int).toNat*3)=384:=rfl;rw[e];unfold madeCells;have h0:j*3<384:=by omega
   have h1:j*3+1<384:=by omega
   have h2:j*3+2<384:=by omega
   have m0:j*3 % 3=0:=by omega
   have m1:(j*3+1) % 3=1:=by omega
   have m2:(j*3+2) % 3=2:=by omega
   simp[h0,h1,h2,m0,m1,m2,Value.cells]
 · exact run_make W 41 63 i _ Tryz.underlying41 hi hz .i64 .i64 128 128 (by omega) (by omega) (by rw[h2];omega) (by omega)
def Tab0 (w:World) (g:Nat):Prop:=∃(r:Nat) (cs:Array Value),g=r+1/\Blk w g 179 #[.slice (some ⟨r,0,none⟩) 128 128,.int .i64 0,.int .i64 0,.int .i64 0,.int .i64 4096]/\Blk w r 63 cs/\Ring0 cs
theorem tabNew_any (w:World):Calls Tryz.prog 65 #[.int .i64 4096] w λe w'=>e= .returned (.tuple #[.pointer (some ⟨w.heap.size+1,0,none⟩),.nilIface])/\
 Tab0 w' (w.heap.size+1)/\w'.heap.size=w.heap.size+2/\Below w.heap.size w w':=by
 obtain⟨cs,h0,h1⟩:=make_ring;go_enter Tryz.func65,Tryz.ntmps65;go_wp2;go_ret2;refine⟨rfl,⟨w.heap.size,cs,rfl,?_,(Blk.new w _ cs).alloc _,h0⟩,by simp,((Below.refl _ _).alloc (Nat.le_refl _) _).alloc (by simp) _⟩;have h:=Blk.new (w.alloc (.cells cs 63)) 179 #[.slice (some ⟨w.heap.size,0,none⟩) 128 128,.int .i64 0,.int .i64 0,.int .i64 0,.int .i64 4096];rw[show(w.alloc (.cells cs 63)).heap.size=w.heap.size+1 by simp]at h;exact h
theorem Tab0.alloc {w:World} {g:Nat} (h:Tab0 w g) (o:Obj):Tab0 (w.alloc o) g:=by
 obtain⟨r,cs,h0,h1,h2,h3⟩:=h;exact⟨r,cs,h0,h1.alloc o,h2.alloc o,h3⟩
theorem newEnc_any (w:World):Calls Tryz.prog 36 #[.int .i64 4096] w λe w'=>e= .returned (.tuple #[.pointer (some ⟨w.heap.size+2,0,none⟩),.nilIface])/\
 Blk w' (w.heap.size+2) 135 #[.pointer (some ⟨w.heap.size+1,0,none⟩),.int .i64 0,.bool false]/\Tab0 w' (w.heap.size+1)/\w'.heap.size=w.heap.size+3/\Below w.heap.size w w':=by
 go_enter Tryz.func36,Tryz.ntmps36;go_wp2_with fail;refine(tabNew_any w).mono ?_;rintro e w1 ⟨rfl,ht,hz,hb⟩;have HT:=hid ht;have HZ:=hid hz;have HB:=hid hb;clear ht hz hb;go_wp2;go_ret2;have h:=Blk.new w1 135 #[.pointer (some ⟨w.heap.size+1,0,none⟩),.int .i64 0,.bool false];rw[HZ.out]at h;refine⟨by rw[HZ.out];rfl,h,HT.out.alloc _,by simp[HZ.out],HB.out.alloc HB.out.size _⟩
theorem newDec_any (w:World):Calls Tryz.prog 37 #[.int .i64 4096] w λe w'=>e= .returned (.tuple #[.pointer (some ⟨w.heap.size+2,0,none⟩),.nilIface])/\
 Blk w' (w.heap.size+2) 137 #[.pointer (some ⟨w.heap.size+1,0,none⟩),.int .i64 4096,.bool false]/\Tab0 w' (w.heap.size+1)/\w'.heap.size=w.heap.size+3/\Below w.heap.size w w':=by
 go_enter Tryz.func37,Tryz.ntmps37;go_wp2_with fail;refine(tabNew_any w).mono ?_;rintro e w1 ⟨rfl,ht,hz,hb⟩;have HT:=hid ht;have HZ:=hid hz;have HB:=hid hb;clear ht hz hb;go_wp2;go_ret2;have h:=Blk.new w1 137 #[.pointer (some ⟨w.heap.size+1,0,none⟩),.int .i64 4096,.bool false];rw[HZ.out]at h;refine⟨by rw[HZ.out];rfl,h,HT.out.alloc _,by simp[HZ.out],HB.out.alloc HB.out.size _⟩
end Go.Proofs.YtkpppjhbmnfmkaaGreatDoor
end

section
set_option maxHeartbeats 1000000
set_option maxRecDepth 100000
namespace Go.Proofs.YtkpppjhbmnfmkaaGreatDoor
open Lib (hid)
open Go.RowKit Go.Own Go.Own.Fr
theorem winNew_any (n:Int) (W:World) (h0:0<=n) (h1:n<=2147483647):Calls Tryz.prog 64 #[.int .i64 n] W λe w'=>e= .returned (.tuple #[.pointer (some ⟨W.heap.size,0,none⟩),.nilIface])/\w'=W.alloc (.cells #[.int .i64 n] 177):=by
 have e0:(n<0)=False:=by simp;omega
 have e1:((2147483647:Int)<n)=False:=by simp;omega
 clear h0 h1;go_enter Tryz.func64,Tryz.ntmps64;go_wp2;go_ret2;exact⟨rfl,rfl⟩
theorem window_any (n:Int) (W:World) (h0:0<=n) (h1:n<=2147483647):Calls Tryz.prog 35 #[.int .i64 n] W λe w'=>e= .returned (.pointer (some ⟨W.heap.size,0,none⟩))/\w'=W.alloc (.cells #[.int .i64 n] 177):=by
 have HN:=hid (winNew_any n W h0 h1);have hm:max n 0=n:=by omega
 clear h1;go_enter Tryz.func35,Tryz.ntmps35;go_wp2_with fail;refine HN.out.mono ?_;rintro e w1 ⟨rfl,hw⟩;subst w1;go_wp2;go_ret;exact⟨rfl,rfl⟩
theorem both_any (a b:Nat) (x y:Value) (W:World) (hne:a≠b) (ha:Blk W a 177 #[x]) (hb:Blk W b 177 #[y]):Calls Tryz.prog 95 #[.pointer (some ⟨a,0,none⟩),.pointer (some ⟨b,0,none⟩)] W λe w'=>e= .returned (.pointer (some ⟨W.heap.size+1,0,none⟩))/\
 w'=(W.alloc (.cells #[.pointer (some ⟨a,0,none⟩),.pointer (some ⟨b,0,none⟩)] 75)).alloc (.cells #[.slice (some ⟨W.heap.size,0,none⟩) 2 2] 206):=by
 obtain⟨j,hj⟩:∃j,Tryz.prog.info? 177=some j:=Option.isSome_iff_exists.1 (by kernel_rfl);have hsz:j.size≠0:=by
  have h:(Tryz.prog.info? 177).map (·.size)=some 1:=by kernel_rfl
  rw[hj]at h;have h1:j.size=1:=by simpa using h
  omega
 have hq:=run_eql_ptr_other (P:=Tryz.prog) (w:=W) (a:=⟨a,0,none⟩) (b:=⟨b,0,none⟩) Tryz.underlying75 hj hsz (by intro e;injection e with e;exact hne e) ha hb;go_enter Tryz.func95,Tryz.ntmps95;go_wp2;go_ret;exact⟨rfl,rfl⟩
end Go.Proofs.YtkpppjhbmnfmkaaGreatDoor
end

section
set_option maxHeartbeats 1000000
set_option maxRecDepth 100000
namespace Go.Proofs.YtkpppjhbmnfmkaaGreatDoor
open Go.RowKit Go.Own Go.Own.Fr
theorem preface_any (w:World):Calls Tryz.prog 38 #[] w λe w'=>e= .returned (.slice (some ⟨w.heap.size,0,none⟩) 24 24)/\Rd w' (w.heap.size+1) (some ⟨w.heap.size,0,none⟩) 24 prefB/\Below w.heap.size w w':=by
 have h0:=λ(w:World) (C:Array Value) (n c:Nat)=>Lib.run_convert_bytes_const (P:=Tryz.prog) w 22 5 C n c Tryz.underlying22 Tryz.underlying5;go_enter Tryz.func38,Tryz.ntmps38;go_wp2;go_ret;exact⟨rfl,Rd.marks w _ prefB 5 _ rfl,(Below.refl _ _).alloc (Nat.le_refl _) _⟩
theorem prefaceR_any (w:World):Calls Tryz.prog 41 #[] w λe w'=>e= .returned (.slice (some ⟨w.heap.size,0,none⟩) 24 24)/\Rd w' (w.heap.size+1) (some ⟨w.heap.size,0,none⟩) 24 prefB/\Below w.heap.size w w':=by
 have h0:=λ(w:World) (C:Array Value) (n c:Nat)=>Lib.run_convert_bytes_const (P:=Tryz.prog) w 22 5 C n c Tryz.underlying22 Tryz.underlying5;go_enter Tryz.func41,Tryz.ntmps41;go_wp2;go_ret;exact⟨rfl,Rd.marks w _ prefB 5 _ rfl,(Below.refl _ _).alloc (Nat.le_refl _) _⟩
end Go.Proofs.YtkpppjhbmnfmkaaGreatDoor
end

section
set_option maxHeartbeats 1000000
set_option maxRecDepth 100000
namespace Go.Proofs.YtkpppjhbmnfmkaaGreatDoor
open Lib (hid)
open Go.RowKit Go.Own Go.Own.Fr
theorem big_any (n k:Nat) (w:World) (hk:k<=8) (hn:n<9223372036854775808):
 Calls Tryz.prog 77 #[.int .i64 (n:Int),.int .i64 (k:Int)] w λe w'=>∃A c,e= .returned (.slice A k c)/\Ow w' w.heap.size 5 (.slice A k c) k (be n k)/\Below w.heap.size w w':=by
 have HO:=hid (show Ow w w.heap.size 5 (.slice none 0 0) 0 []from⟨rfl,.inl ⟨rfl,rfl⟩⟩);go_enter Tryz.func77,Tryz.ntmps77;go_wp2;go_loopw [5,6] (λout iv wr=>Hid (NumRel w w.heap.size 5 (.slice none 0 0) 0 [] n k out iv wr)) (λ_ iv _=>(intOf iv+1).toNat)
 case atStart=>exact hid ⟨k,[],Nat.le_refl _,by go_num,rfl,by simp,by simpa using HO.out,World.grownBy.refl w _,.inl rfl⟩
 case round=>
  obtain⟨r,pre,hr,rfl,h3,hf,ho,hg,h4⟩:=hrel.out;clear hrel;have HB:=hid h3;clear h3;obtain⟨A0,cap0,rfl,_,_,_⟩:=ho.form;have h5:=hid ho;clear ho HO;have HG:=hid hg;clear hg;have HW:=hid h4;clear h4;rcases r with _|q
  · go_wp2
    go_ret;have e:be n k=pre:=by rw[HB.out];simp[be]
    have ho:=h5.out;simp only[Nat.sub_zero,Nat.zero_add,List.nil_append]at ho ⊢;rw[e];exact⟨_,_,rfl,ho,(Below.refl _ _).grown HG.out (Nat.le_refl _) (λg e=>by cases e)⟩
  · have e1:((q+1:Nat):Int)-1=(q:Int):=by omega
    rw[e1];have h8:(0:Int)<=8*(q:Int):=by omega
    have HY:=hid (byte_of n q);have hsz:w.heap.size<=wr.heap.size:=HG.out.size;go_wp2_with (first
     |(at_builtin
       refine wpList_app_any _ byteP rfl (.tmp 13) (.tmp 20) rfl w.heap.size _ (0+(k-(q+1))) ([]++pre) rfl (h5.out.alloc _) _ _ 1 1 _ rfl (Rd.one _ _ (UInt8.ofNat (n/256^q)) _ HY.out) ?_ ?_ ?_
       · omega
       · simp;omega
       intro A' cap' w2 h6 h7 h9 hh hi;have hc:=hid h6;clear h6;have hd:=hid h7;clear h7;have he:=hid h9;clear h9))
    have e2:k-(q+1)+1=k-q:=by omega
    have h0:=hc.out;simp only[Nat.zero_add,List.nil_append]at h0;rw[e2]at h0;rw[e2];refine⟨hid ⟨q,pre++[UInt8.ofNat (n/256^q)],by omega,rfl,?_,by simp;omega,by simpa using h0,?_,?_⟩,by simp[intOf]⟩
    · rw[HB.out]
      simp[be]
    · refine(grown_alloc HG.out _).andThen hd.out λj hj=>?_
      rcases HW.out with h|⟨g,h,hg⟩
      · exact .inr (h.symm.trans hj)
      · exact .inl (by have h2:=h.symm.trans hj;injection h2 with h2;omega)
    · have h1:=he.out
      simp only[Nat.zero_add]at h1;rw[e2]at h1;rcases h1 with h|h
      · rw[h]
        have hb:=HW.out;simp only[Nat.zero_add]at hb;exact hb
      · exact .inr ⟨_,h,by simp;have:=HG.out.size;omega⟩
end Go.Proofs.YtkpppjhbmnfmkaaGreatDoor
end

section
set_option maxHeartbeats 4000000
set_option maxRecDepth 100000
namespace Go.Proofs.YtkpppjhbmnfmkaaGreatDoor
open Lib (hid)
open Go.RowKit Go.Own Go.Own.Fr
theorem putR_any (A2:Option Addr) (m c2 t f s B:Nat) (p:List UInt8) (w:World) (hr:Rd w B A2 m p) (hB:B<=w.heap.size) (hm:m<16777216) (ht:t<=255) (hf:f<=255) (hs:s<=2147483647):
 Calls Tryz.prog 44 #[.agg #[.int .i64 (t:Nat),.int .i64 (f:Nat),.int .i64 (s:Nat),.slice A2 m c2]] w λe w'=>∃A' c',e= .returned (.tuple #[.slice A' (9+m) c',.int .i64 0])/\
  Ow w' w.heap.size 5 (.slice A' (9+m) c') (9+m) (frameB t f s p)/\Below w.heap.size w w':=by
 have HR:=hid hr;have h9:=hr.1;clear hr;have a1:((t:Int)<0)=False:=by simp
 have a2:((255:Int)<(t:Int))=False:=by simp;omega
 have a3:((f:Int)<0)=False:=by simp
 have a4:((255:Int)<(f:Int))=False:=by simp;omega
 have a5:((s:Int)<0)=False:=by simp
 have a6:((2147483647:Int)<(s:Int))=False:=by simp;omega
 have a7:((16777216:Int)<=(m:Int))=False:=by simp;omega
 have HM:=hid hm;have HS:=hid hs;have hC:=hid h9;clear hm hs h9;go_enter Tryz.func44,Tryz.ntmps44;go_upto_region 1 with fail;have HX:=hid (Blk.new w 24 #[.int .i64 (t:Nat),.int .i64 (f:Nat),.int .i64 (s:Nat),.slice A2 m c2]);have h4:=hid ((Below.refl w.heap.size w).alloc (Nat.le_refl _) (.cells #[.int .i64 (t:Nat),.int .i64 (f:Nat),.int .i64 (s:Nat),.slice A2 m c2] 24));have HZ:=hid (show(w.alloc (.cells #[.int .i64 (t:Nat),.int .i64 (f:Nat),.int .i64 (s:Nat),.slice A2 m c2] 24)).heap.size=w.heap.size+1 by simp);generalize w.alloc (.cells #[.int .i64 (t:Nat),.int .i64 (f:Nat),.int .i64 (s:Nat),.slice A2 m c2] 24)=w0 at HX h4 HZ ⊢;have h1:=hid (λW (hW:Below w0.heap.size w0 W)=>(show W.cell? ⟨w.heap.size,0,none⟩=some (.int .i64 (t:Nat))/\W.cell? ⟨w.heap.size,1,none⟩=some (.int .i64 (f:Nat))/\W.cell? ⟨w.heap.size,2,none⟩=some (.int .i64 (s:Nat))/\W.cell? ⟨w.heap.size,3,none⟩=some (.slice A2 m c2)from
  have h:=HX.out.below hW HX.out.lt
  ⟨h.cell 0,h.cell 1,h.cell 2,h.cell 3⟩))
 obtain⟨c0,c1,c2',c3⟩:=h1.out w0 (Below.refl _ _);go_wp2_with fail;refine(big_any m 3 w0 (by omega) (by have:=HM.out;omega)).mono ?_;rintro e w1 ⟨A3,c3',rfl,hb,hc⟩;have h5:=hid hb;have h2:=hid hc;clear c0 c1 c2' c3 hb hc;obtain⟨c0,c1,c2',c3⟩:=h1.out w1 h2.out;go_upto_region 5 with(first
  |(at_builtin
    refine wpList_app_any _ byteP rfl (.tmp 43) (.tmp 50) rfl w0.heap.size _ 3 (be m 3) rfl (h5.out.alloc _) _ _ 2 2 [UInt8.ofNat t,UInt8.ofNat f] rfl (rd_two _ t f ht hf) ?_ ?_ ?_
    · omega
    · have:=h2.out.size;simp;omega
    intro A4 cap4 w4 hd he _ _ _;have h6:=below_own (h2.out.alloc (h2.out.size) _) (Nat.le_refl _) (h5.out.alloc _) he;have hh:=hid h6;have hi:=hid hd;clear c0 c1 c2' c3;obtain⟨c0,c1,c2',c3⟩:=h1.out w4 h6;clear hd he h6 h2 h5)
  |fail)
 go_wp2_with fail;refine(big_any s 4 w4 (by omega) (by have:=HS.out;omega)).mono ?_;rintro e w5 ⟨A5,c5,rfl,hj,h7⟩;have hD:=hid hj;have h8:=hid (hh.out.trans (h7.mono hh.out.size));have h0:=hid (hi.out.below h7 (λg hg=>(hi.out.lt hg).1));clear c0 c1 c2' c3 hj h7;obtain⟨c0,c1,c2',c3⟩:=h1.out w5 h8.out;go_wp2_with (first
  |(at_builtin
    refine wpList_app_any _ byteP rfl (.tmp 52) (.tmp 55) rfl w0.heap.size _ (3+2) (be m 3++[UInt8.ofNat t,UInt8.ofNat f]) rfl h0.out _ _ 4 c5 (be s 4) rfl hD.out.rd ?_ ?_ ?_
    · omega
    · exact h8.out.size
    intro A6 cap6 w6 hk hl _ _ _;have h3:=below_own h8.out (Nat.le_refl _) h0.out hl;have hn:=hid h3;have hq:=hid hk;clear c0 c1 c2' c3;obtain⟨c0,c1,c2',c3⟩:=h1.out w6 h3;have hE:=hid (((HR.out.more hB).below h4.out).below (h3.mono (by have:=HZ.out;omega)));clear hk hl h3 h0)
  |(at_builtin
    refine wpList_app_any _ byteP rfl (.tmp 57) (.tmp 59) rfl w0.heap.size _ (3+2+4) ((be m 3++[UInt8.ofNat t,UInt8.ofNat f])++be s 4) rfl hq.out _ A2 m c2 p rfl hE.out ?_ ?_ ?_
    · have:=HM.out;omega
    · exact hn.out.size
    intro A7 cap7 w7 hu hw _ _ _;have hA:=below_own hn.out (Nat.le_refl _) hq.out hw;have hF:=hid hA;have hG:=hid hu;clear hu hw hA)
  |fail)
 go_ret2;have e2:((be m 3++[UInt8.ofNat t,UInt8.ofNat f])++be s 4)++p=frameB t f s p:=by simp[frameB,hC.out]
 have ho:=hG.out;rw[e2]at ho;exact⟨_,_,rfl,ho.base (by have:=HZ.out;omega),h4.out.trans (hF.out.mono (by have:=HZ.out;omega))⟩
theorem lawFrame_any (A2:Option Addr) (m c2 t f s B:Nat) (p:List UInt8) (w:World) (hr:Rd w B A2 m p) (hB:B<=w.heap.size) (hm:m<16777216) (ht:t<=255) (hf:f<=255) (hs:s<=2147483647):
 Calls Tryz.prog 14 #[.int .i64 (t:Nat),.int .i64 (f:Nat),.int .i64 (s:Nat),.slice A2 m c2] w λe w'=>∃A' c',e= .returned (.slice A' (9+m) c')/\
  Ow w' w.heap.size 5 (.slice A' (9+m) c') (9+m) (frameB t f s p)/\Below w.heap.size w w':=by
 have HP:=hid (putR_any A2 m c2 t f s B p w hr hB hm ht hf hs);clear hr hm ht hf hs;go_enter Tryz.func14,Tryz.ntmps14;go_wp2_with fail;refine HP.out.mono ?_;rintro e w1 ⟨A',c',rfl,ho,hb⟩;have HO:=hid ho;have HB:=hid hb;clear ho hb;go_wp2;go_ret;exact⟨_,_,rfl,HO.out,HB.out⟩
end Go.Proofs.YtkpppjhbmnfmkaaGreatDoor
end

section
set_option maxHeartbeats 2000000
set_option maxRecDepth 100000
namespace Go.Own
open Lib (hid)
open Go.RowKit
theorem Ow.lit (w:World) (e:TypeId) (l:List UInt8) (hl:l.length<=1000):Ow (w.alloc (.cells (l.map bv).toArray e)) w.heap.size e (.slice (some ⟨w.heap.size,0,none⟩) l.length l.length) l.length l:=by
 have h:=Cm.Ew.lit (λb:UInt8=>#[bv b]) e (k:=1) (λ_=>rfl) w l hl;have e2:∀l:List UInt8,Cm.flat (λb:UInt8=>#[bv b]) l=l.map bv:=by
  intro l
  induction l with
  |nil=>rfl
  |cons x l ih=>rw[show Cm.flat (λb:UInt8=>#[bv b]) (x::l)=bv x::Cm.flat (λb:UInt8=>#[bv b]) l from rfl,ih];rfl
 unfold Cm.Ew at h;rw[e2]at h;exact h
end Go.Own
namespace Go.Proofs.YtkpppjhbmnfmkaaGreatDoor
open Lib (hid)
open Go.RowKit Go.Own Go.Own.Fr
theorem lawNumber_any (n:Nat) (w:World) (hn:n<4294967296):
 Calls Tryz.prog 17 #[.int .i64 (n:Nat)] w λe w'=>e= .returned (.slice (some ⟨w.heap.size,0,none⟩) 4 4)/\Rd w' (w.heap.size+1) (some ⟨w.heap.size,0,none⟩) 4 (be n 4)/\Below w.heap.size w w':=by
 go_enter Tryz.func17,Tryz.ntmps17;go_wp2;go_ret;refine⟨rfl,?_,(Below.refl _ _).alloc (Nat.le_refl _) _⟩;refine Rd.lits w _ (be n 4) 5 ?_;simp[be,bv];omega
theorem lawAck_any (w:World):Calls Tryz.prog 12 #[] w λe w'=>∃A c,e= .returned (.slice A 9 c)/\Ow w' w.heap.size 5 (.slice A 9 c) 9 (frameB 4 1 0 [])/\Below w.heap.size w w':=by
 have HF:=hid (lawFrame_any none 0 0 4 1 0 w.heap.size [] w ⟨rfl,λh=>absurd h (by omega)⟩ (Nat.le_refl _) (by omega) (by omega) (by omega) (by omega));go_enter Tryz.func12,Tryz.ntmps12;go_wp2_with fail;refine HF.out.mono ?_;rintro e w1 ⟨A',c',rfl,ho,hb⟩;have HO:=hid ho;have HB:=hid hb;clear ho hb;go_wp2;go_ret;exact⟨_,_,rfl,HO.out,HB.out⟩
theorem lawSetting_any (k v:Nat) (w:World) (hk:k<=255) (hv:v<4294967296):Calls Tryz.prog 31 #[.int .i64 (k:Nat),.int .i64 (v:Nat)] w λe w'=>∃A c,e= .returned (.slice A 6 c)/\Ow w' w.heap.size 5 (.slice A 6 c) 6 (be k 2++be v 4)/\Below w.heap.size w w':=by
 have HN:=hid (λW=>lawNumber_any v W hv);have HO:=hid (show Ow (w.alloc (.cells #[.int .u8 0,.int .u8 (k:Nat)] 5)) w.heap.size 5 (.slice (some ⟨w.heap.size,0,none⟩) 2 2) 2 (be k 2)from by
  have h:=Ow.lit w 5 (be k 2) (by rw[be_len];omega);have e:((be k 2).map bv).toArray= #[.int .u8 0,.int .u8 (k:Nat)]:=by
   simp[be,bv];omega
  rw[e,be_len]at h;exact h)
 clear hv;go_enter Tryz.func31,Tryz.ntmps31;go_wp2_with fail;refine(HN.out _).mono ?_;rintro e w1 ⟨rfl,hr,hb⟩;have HR:=hid hr;have HB:=hid hb;have h0:=hid (HO.out.below hb (λg hg=>(HO.out.lt hg).1));clear hr hb;go_wp2_with (first
  |(at_builtin
    refine wpList_app_any _ byteP rfl (.tmp 7) (.tmp 9) rfl w.heap.size _ 2 (be k 2) rfl h0.out _ _ 4 4 (be v 4) rfl (by first|exact HR.out|simpa using HR.out) ?_ ?_ ?_
    · omega
    · have:=HB.out.size;simp at this;omega
    intro A2 cap2 w2 h1 h2 _ _ _;have h3:=hid h1;have h4:=hid (below_own (((Below.refl w.heap.size w).alloc (Nat.le_refl _) (.cells #[.int .u8 0,.int .u8 (k:Nat)] 5)).trans (HB.out.mono (by simp))) (Nat.le_refl _) h0.out h2);clear h1 h2)
  |fail)
 go_ret;exact⟨_,_,rfl,h3.out,h4.out⟩
end Go.Proofs.YtkpppjhbmnfmkaaGreatDoor
end

section
set_option maxHeartbeats 4000000
set_option maxRecDepth 100000
namespace Go.Proofs.YtkpppjhbmnfmkaaGreatDoor
open Lib (hid)
open Go.RowKit Go.Own Go.Own.Fr
theorem hello2_any (w:World):Calls Tryz.prog 11 #[.int .i64 2] w λe w'=>∃A c,e= .returned (.slice A 33 c)/\Oz w' (λg=>w.heap.size<=g) (.slice A 33 c) (prefB++frameB 4 0 0 [])/\Below w.heap.size w w':=by
 have HF:=hid (lawFrame_any none 0 0 4 0 0 w.heap.size [] w ⟨rfl,λh=>absurd h (by omega)⟩ (Nat.le_refl _) (by omega) (by omega) (by omega) (by omega));go_enter Tryz.func11,Tryz.ntmps11;go_wp2_with fail;refine HF.out.mono ?_;rintro e w1 ⟨A1,c1,rfl,h6,h7⟩;have h8:=hid h6;have h1:=hid h7;clear h6 h7;go_wp2_with fail;refine(prefaceR_any w1).mono ?_;rintro e w2 ⟨rfl,h2,h3⟩;have h0:w1.heap.size<w2.heap.size:=by
  obtain⟨ad,e,hj,hc⟩:=h2.2 (by decide);injection e with e
  subst e;exact(World.block_lt_of_cell? w2 _ (hc 0 (by decide)))
 have he:=hid (Oz.full (own:=λg=>w.heap.size<=g) h2 h0 (by decide) h1.out.size (by decide));have hf:=hid ((h8.out.below h3 (λg hg=>(h8.out.lt hg).1)).rd);have h4:=hid (h1.out.trans (h3.mono h1.out.size));clear h2 h3 h0;have h5:prefB.length+(9+0)<=140737488355328:=by decide
 go_wp2_with (first
  |(refine wpList_app_z byteP _ rfl (.tmp 7) (.tmp 8) rfl (λg=>w.heap.size<=g) (.slice (some ⟨w1.heap.size,0,none⟩) 24 24) prefB rfl he.out w2.heap.size A1 (9+0) c1 (frameB 4 0 0 []) rfl hf.out h5 ?_
    intro A3 c3 w3 row3 h9 hb hd;have hh:=hid (h9.owned (own':=λg=>w.heap.size<=g) (λg _ h=>by rcases h with h|⟨_,h⟩;exact h;rw[h];exact h4.out.size));have hi:=hid (h4.out.grown hb h4.out.size (λg e=>(hd g e).1));clear h9 hb hd)
  |fail)
 go_ret;exact⟨A3,c3,rfl,hh.out,hi.out⟩
end Go.Proofs.YtkpppjhbmnfmkaaGreatDoor
end

section
set_option maxHeartbeats 400000
set_option maxRecDepth 100000
namespace Go.Proofs.YtkpppjhbmnfmkaaGreatDoor
open Go.RowKit Go.Own
theorem sameBytes_any (A A2:Option Addr) (n n2 c c2:Nat) (l l2:List UInt8) (w:World) (B B2:Nat) (hr:Rd w B A n l) (h0:Rd w B2 A2 n2 l2):
 Calls Tryz.prog 18 #[.slice A n c,.slice A2 n2 c2] w λe w'=>e= .returned (.bool (decide (l=l2)))/\w=w':=by
 have h1:=run_str (P:=Tryz.prog) (c:=c) 22 9 5 Tryz.underlying22 Tryz.underlying5 Tryz.underlying9 hr;have h2:=run_str (P:=Tryz.prog) (c:=c2) 22 9 5 Tryz.underlying22 Tryz.underlying5 Tryz.underlying9 h0;clear hr h0;go_enter Tryz.func18,Tryz.ntmps18;go_wp2;go_ret;refine⟨?_,rfl⟩;simp;rw[Bool.eq_iff_iff];simp
end Go.Proofs.YtkpppjhbmnfmkaaGreatDoor
end

section
set_option maxHeartbeats 400000
set_option maxRecDepth 100000
namespace Go.Proofs.YtkpppjhbmnfmkaaGreatDoor
open Lib (hid)
open Go.RowKit Go.Own
theorem bytes_any (A:Option Addr) (n c:Nat) (l:List UInt8) (w:World) (B:Nat) (hr:Rd w B A n l) (hB:B<=w.heap.size) (hn:n<=1000000000000):
 Calls Tryz.prog 19 #[.slice A n c] w λe w'=>e= .returned (.slice (some ⟨w.heap.size,0,none⟩) n n)/\
  Ow w' w.heap.size 5 (.slice (some ⟨w.heap.size,0,none⟩) n n) n l/\Below w.heap.size w w':=by
 have HR:=hid hr;clear hr;go_enter Tryz.func19,Tryz.ntmps19;go_wp2_with (first
  |(at_make
    refine wpList_mk _ byteP rfl _ _ rfl w.heap.size .i64 .i64 _ n rfl rfl ?_ ?_ (Nat.le_refl _) ?_
    · rfl
    · omega
    intro w1 h2 h3;have h0:Below w.heap.size w w1:=(Below.refl _ _).grown h3 (Nat.le_refl _) (by simp);have h4:=hid ((HR.out.more hB).below h0))
  |(at_builtin
    refine wpList_app_fits _ byteP rfl (.tmp 5) (.tmp 6) rfl w.heap.size w.heap.size 0 n [] rfl h2 w.heap.size A n c l rfl h4.out ?_ ?_
    · omega
    intro w2 h1 h5;have h6:Below w.heap.size w w2:=h0.grown h5 h0.size (by simp)))
 go_ret;simp only[Nat.zero_add,List.nil_append]at h1 ⊢;exact⟨rfl,h1,h6⟩
end Go.Proofs.YtkpppjhbmnfmkaaGreatDoor
end

section
namespace Go.Proofs.YtkpppjhbmnfmkaaGreatDoor
open Go.RowKit Go.Own Go.Own.Fr
end Go.Proofs.YtkpppjhbmnfmkaaGreatDoor
end

section
set_option maxHeartbeats 2000000
set_option maxRecDepth 100000
namespace Go.Proofs.YtkpppjhbmnfmkaaGreatDoor
open Lib (hid)
open Go.RowKit Go.Own Go.Own.Fr
theorem sameInts_any (w:World) (A A2:Option Addr) (n c c2 B B2:Nat) (zs:List Int) (h1:Ri w B A n zs) (h2:Ri w B2 A2 n zs) (hB:B<=w.heap.size) (h3:B2<=w.heap.size) (hn:n<=1000000):
 Calls Tryz.prog 20 #[.slice A n c,.slice A2 n c2] w λe w'=>e= .returned (.bool true)/\Below w.heap.size w w':=by
 have H1:=hid h1;have H2:=hid h2;have HN:=hid (show _/\_/\_ from⟨hn,hB,h3⟩);clear h1 h2 hB h3;go_enter Tryz.func20,Tryz.ntmps20;go_upto_region 4 with fail;go_loopw [5] (λiv wr=>∃k:Nat,iv= .int .i64 (k:Nat)/\k<=n/\Hid (Below w.heap.size w wr)) (λiv _=>n-(intOf iv).toNat)
 case atStart=>exact⟨0,rfl,Nat.zero_le _,hid (Below.refl _ _)⟩
 case round=>
  obtain⟨k,rfl,h5,hb⟩:=hrel;by_cases h0:k<n
  · have h7:(k:Int)<(n:Int):=by omega
    have i0:(0:Int)<=(k:Int):=by omega
    obtain⟨ad,rfl,a0⟩:=(H1.out.below (hb.out.mono HN.out.2.1)).at_ h0;obtain⟨ad2,rfl,b0⟩:=(H2.out.below (hb.out.mono HN.out.2.2)).at_ h0;have h4:wrap64 ((k:Int)+1)=((k+1:Nat):Int):=by have:=HN.out;unfold wrap64;omega
    have h6:=hid h4;generalize zs.getD k 0=z at*
    clear h5 h4 hn;go_wp2_with fail;go_quiet (fail);go_wp2_with fail;first
     |exact⟨⟨k+1,rfl,h0,hid (bdN hb.out _)⟩,by simp[intOf];omega⟩
     |(rw[h6.out];exact⟨⟨k+1,rfl,h0,hid (bdN hb.out _)⟩,by simp[intOf];omega⟩)
  · obtain rfl:k=n:=by omega
    have h8:¬((k:Int)<(k:Int)):=by omega
    go_wp2;go_ret;exact⟨rfl,hb.out⟩
end Go.Proofs.YtkpppjhbmnfmkaaGreatDoor
end
