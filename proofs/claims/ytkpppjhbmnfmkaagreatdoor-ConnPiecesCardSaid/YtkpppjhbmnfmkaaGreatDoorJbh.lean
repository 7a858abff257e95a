/-
  
  
  
  
-/
import Derived.Test.YtkpppjhbmnfmkaaGreatDoorJbg
import Derived.Test.YtkpppjhbmnfmkaaGreatDoorJav
import Derived.Test.YtkpppjhbmnfmkaaGreatDoorJan
set_option linter.unusedSimpArgs false
set_option linter.unusedVariables false
section
namespace Go.Proofs.YtkpppjhbmnfmkaaGreatDoor
open Go.RowKit Go.Own Go.Own.Im Go.Own.Cx Go.Own.Fr Go.Own.Hd
theorem live_new (side cw cs:Nat) (hs:side=1\/side=2) (hw:cw<=2147483647):Live 0 (newM side cw cs) where
 dead:=rfl
 side:=hs
 dg:=rfl
 cw:=(by omega:0<=(cw:Int)/\(cw:Int)<=2147483647)
 bye:=rfl
 pref:=by
  show(if side=1 then 24 else 0)<=24
  split<;>omega
 ids:=List.Pairwise.nil
 idb:=λs hs=>by cases hs
 last:=(by decide:(0:Nat)<=2147483647)
 cl:=λ_=>⟨rfl,rfl⟩
 cll:=λ_=>rfl
 win:=(by decide:(0:Int)<=65535/\(65535:Int)<=2147483647)
 win0:=λ_=>rfl
 oth:=(by decide:(0:Int)<=65535/\(65535:Int)<=2147483647)
 inw:=(by decide:(0:Int)<=65535/\(65535:Int)+heldS []=65535)
 str:=λs hs=>by cases hs
 outw:=(by decide:(0:Int)<=65535/\(65535:Int)<=2147483647)
 list:=λq hq=>by cases hq
 greet:=λ_=>rfl
 out:=by
  show((if side=1 then prefB else[])++frameB 4 0 0 (setB [firstSet side cs,(4,cw),(6,16384)])).length<=1000+100*0;rw[List.length_append,frameB_len,setB_len];have:prefB.length=24:=rfl
  split<;>simp<;>omega
 len:=Nat.le_refl 0
theorem new_any (w:World) (side cw cs:Nat) (h:side=1\/side=2) (hw:cw<=2147483647) (hs:cs<=100):
 Calls Tryz.prog 9 #[.int .i64 (side:Nat),.agg #[.int .i64 (cw:Nat),.int .i64 (cs:Nat)]] w λe w'=>∃b ow L,e= .returned (.tuple #[.pointer (some ⟨b,0,none⟩),.nilIface])/\CN w' ow b (newM side cw cs) L/\Below w.heap.size w w'/\(∀g,g<w.heap.size->ow g= .no):=by
 rcases h with rfl|rfl
 · exact new1_any w cw cs hw hs
 · exact new2_any w cw cs hw hs
def helB (side:Nat):List UInt8:=if side=2 then prefB++frameB 4 0 0 []else frameB 4 0 0 []
theorem helB_len (side:Nat):(helB side).length<=33:=by
 unfold helB
 split<;>decide
theorem hello_any (w:World) (side:Nat) (h:side=1\/side=2):Calls Tryz.prog 11 #[.int .i64 (side:Nat)] w λe w'=>∃A c,e= .returned (.slice A (helB side).length c)/\Oz w' (λg=>w.heap.size<=g) (.slice A (helB side).length c) (helB side)/\Below w.heap.size w w':=by
 rcases h with rfl|rfl
 · exact hello1_any w
 · exact hello2_any w
theorem is_two {Q:Ks} {M M':Cv} (h:Q.is M) (h':Q.is M'):M'.out=M.out/\M'.strs=M.strs/\M'.code=M.code/\M'.dead=M.dead:=by
 cases Q with
 |up K=>
  have e:nf M'=nf M:=h'.1.trans h.1.symm;exact⟨(congrArg Cv.out e:(nf M').out=(nf M).out),(congrArg Cv.strs e:(nf M').strs=(nf M).strs),(congrArg Cv.code e:(nf M').code=(nf M).code),(congrArg Cv.dead e:(nf M').dead=(nf M).dead)⟩
 |down o c=>exact⟨h'.2.1.trans h.2.1.symm,h'.2.2.2.trans h.2.2.2.symm,h'.2.2.1.trans h.2.2.1.symm,h'.1.trans h.1.symm⟩
theorem is_still {n:Nat} {Q:Ks} (hQ:LiveQ n Q) (hn:n<=1000000) {M:Cv} (h:Q.is M):(M.strs.map (·.id)).Pairwise (·<·)/\M.strs.length<=1000000/\(∀s∈M.strs,s.id<=2147483647)/\(M.dead=true\/∀s∈M.strs,Still s):=by
 cases Q with
 |up K=>
  have hL:Live n K:=hQ;have e:M.strs=K.strs:=(congrArg Cv.strs h.1:(nf M).strs=K.strs);rw[e];exact⟨hL.ids,by have:=hL.len;omega,λs hs=>Nat.le_trans (hL.idb s hs).2 hL.last,.inr λs hs=>⟨(hL.str s hs).waits,by rw[(hL.str s hs).own];decide⟩⟩
 |down o c=>rw[h.2.2.2];exact⟨List.Pairwise.nil,Nat.zero_le _,λs hs=>(by cases hs),.inl h.1⟩
theorem is_evs {Q:Ks} {M:Cv} (h:Q.is M):Q.is {M with evs:=[]}:=by
 cases Q with
 |up K=>exact h
 |down o c=>exact h
end Go.Proofs.YtkpppjhbmnfmkaaGreatDoor
end

section
namespace Go.Proofs.YtkpppjhbmnfmkaaGreatDoor
open Go.RowKit Go.Own Go.Own.Im Go.Own.Cx Go.Own.Fr Go.Own.Hd
def Nb (ox oy:Nat->Tg) (g:Nat):Prop:=ox g= .no/\oy g= .no
theorem fr_y {w w':World} {ox oy oy':Nat->Tg} (hf:Fr w oy w' oy'):∀g,g<w.heap.size->Nb ox oy g->w'.heap[g]?=w.heap[g]?/\Nb ox oy' g:=λg hg h=>⟨hf.keep g hg h.2,h.1,hf.no g hg h.2⟩
theorem fr_x {w w':World} {ox ox' oy:Nat->Tg} (hf:Fr w ox w' ox'):∀g,g<w.heap.size->Nb ox oy g->w'.heap[g]?=w.heap[g]?/\Nb ox' oy g:=λg hg h=>⟨hf.keep g hg h.1,hf.no g hg h.1,h.2⟩
theorem fr_b {w w':World} {P:Nat->Prop} (hb:Below w.heap.size w w'):∀g,g<w.heap.size->P g->w'.heap[g]?=w.heap[g]?/\P g:=λg hg h=>⟨hb.block g hg,h⟩
theorem other_no {w:World} {ox oy:Nat->Tg} (hd:∀g,oy g≠ .no->ox g= .no) (hnew:∀g,w.heap.size<=g->oy g= .no) (g:Nat) (h:ox g= .no->w.heap.size<=g):oy g= .no:=by
 rcases Nat.lt_or_ge g w.heap.size with h1|h1
 · cases hg:oy g with
   |no=>rfl
   |_=>
    have h2:=hd g (by rw[hg];simp);have:=h h2;omega
 · exact hnew g h1
theorem dis_back {ox oy:Nat->Tg} (hd:∀g,oy g≠ .no->ox g= .no):∀g,ox g≠ .no->oy g= .no:=λg hg=>by
 cases hx:oy g with
 |no=>rfl
 |_=>exact absurd (hd g (by rw[hx];simp)) hg
structure EvA (w:World) (P:Nat->Prop) (vb:Option Nat) (x:EvV):Prop where
 rd:EvRd w x
 sz:x.l.length<=1000000000
 lno:0<x.l.length->∀ad,x.la=some ad->P ad.block/\vb≠some ad.block
 bno:0<x.by_.length->∀ad,x.ba=some ad->P ad.block/\vb≠some ad.block
section
variable {w w':World} {P P':Nat->Prop} {vb vb':Option Nat} {x:EvV}
theorem evrd_keep (h:EvRd w x) (hs:w.heap.size<=w'.heap.size) (hl:0<x.l.length->∀ad,x.la=some ad->w'.heap[ad.block]?=w.heap[ad.block]?) (hb:0<x.by_.length->∀ad,x.ba=some ad->w'.heap[ad.block]?=w.heap[ad.block]?):EvRd w' x:=by
 refine⟨?_,h.2.1,λhn=>?_⟩
 · rcases Nat.eq_zero_or_pos x.l.length with h0|h0
   · have h1:=h.1.1
     exact⟨h1,λj y hy=>by have:=(List.getElem?_eq_some_iff.1 hy).1;omega⟩
   · exact(h.1.keep hs λad e _ _=>hl h0 ad e).more hs
 · obtain⟨ad,e,h2,hc⟩:=h.2.2 hn
   exact⟨ad,e,Nat.lt_of_lt_of_le h2 hs,λj hj=>(World.cell?_of_block (a:=ad.add j) (by rw[add_block];exact hb hn ad e)).trans (hc j hj)⟩
theorem evrd_lt (h:EvRd w x):(0<x.l.length->∀ad,x.la=some ad->ad.block<w.heap.size)/\(0<x.by_.length->∀ad,x.ba=some ad->ad.block<w.heap.size):=by
 refine⟨λh0 ad e=>?_,λh0 ad e=>?_⟩
 · obtain⟨ad2,e2,h1,_⟩:=h.1.2 0 _ (List.getElem?_eq_getElem h0)
   rw[e]at e2;injection e2 with e2
   rw[e2];exact h1
 · obtain⟨ad2,e2,h1,_⟩:=h.2.2 h0
   rw[e]at e2;injection e2 with e2
   rw[e2];exact h1
theorem EvA.step (h:EvA w P vb x) (hs:w.heap.size<=w'.heap.size) (hk:∀g,g<w.heap.size->P g->w'.heap[g]?=w.heap[g]?/\P' g):EvA w' P' vb x:=by
 have h1:=evrd_lt h.rd;exact⟨evrd_keep h.rd hs (λh0 ad e=>(hk _ (h1.1 h0 ad e) (h.lno h0 ad e).1).1) (λh0 ad e=>(hk _ (h1.2 h0 ad e) (h.bno h0 ad e).1).1),h.sz,
  λh0 ad e=>⟨(hk _ (h1.1 h0 ad e) (h.lno h0 ad e).1).2,(h.lno h0 ad e).2⟩,λh0 ad e=>⟨(hk _ (h1.2 h0 ad e) (h.bno h0 ad e).1).2,(h.bno h0 ad e).2⟩⟩
theorem EvA.app (h:EvA w P vb x) (hg:w.grownBy w' vb) (hv:vb'=vb\/vb'=some w.heap.size):EvA w' P vb' x:=by
 have h4:=evrd_lt h.rd;have hk:∀g,g<w.heap.size->vb≠some g->vb'≠some g:=λg h1 h2 h3=>by
  rcases hv with e|e
  · exact h2 (e▸h3)
  · rw[e]at h3;injection h3 with h3;omega
 exact⟨evrd_keep h.rd hg.size (λh0 ad e=>hg.block _ (h4.1 h0 ad e) (λe2=>(h.lno h0 ad e).2 e2.symm)) (λh0 ad e=>hg.block _ (h4.2 h0 ad e) (λe2=>(h.bno h0 ad e).2 e2.symm)),h.sz,
  λh0 ad e=>⟨(h.lno h0 ad e).1,hk _ (h4.1 h0 ad e) (h.lno h0 ad e).2⟩,λh0 ad e=>⟨(h.bno h0 ad e).1,hk _ (h4.2 h0 ad e) (h.bno h0 ad e).2⟩⟩
theorem EvA.fed {w0:World} {ow ow0:Nat->Tg} (hr:EvR w ow x) (hn:EvN w0 ow0 x) (hz:x.l.length<=1000000000) (hP:∀g,ow g= .no->(ow0 g= .no->w0.heap.size<=g)->P g) (h5:∀g,vb=some g->ow0 g= .no/\g<w0.heap.size):EvA w P vb x:=by
 have hk:∀g,(ow0 g= .no->w0.heap.size<=g)->vb≠some g:=λg h1 h2=>by
  obtain⟨h3,h4⟩:=h5 g h2;have:=h1 h3;omega
 exact⟨⟨hr.lst.2.1,hr.byt.2.1⟩,hz,λh0 ad e=>⟨hP _ (hr.lst.2.2 h0 ad e) (hn.lst h0 ad e),hk _ (hn.lst h0 ad e)⟩,λh0 ad e=>⟨hP _ (hr.byt.2.2 h0 ad e).1 (hn.byt h0 ad e),hk _ (hn.byt h0 ad e)⟩⟩
end
structure OneS (w:World) (A:Option Addr) (P:Nat->Prop) (vb:Option Nat) (l:List EvV):Prop where
 row:Cm.RS evC 7 w w.heap.size A l.length l
 rno:0<l.length->∀ad,A=some ad->P ad.block/\vb≠some ad.block
 each:∀x∈l,EvA w P vb x
section
variable {w w':World} {P P':Nat->Prop} {A:Option Addr} {vb:Option Nat} {l:List EvV}
theorem OneS.lt (h:OneS w A P vb l):0<l.length->∀ad,A=some ad->ad.block<w.heap.size:=λh0 ad e=>by
 obtain⟨ad2,e2,h1,_⟩:=h.row.2 0 _ (List.getElem?_eq_getElem h0);rw[e]at e2;injection e2 with e2
 rw[e2];exact h1
theorem OneS.step (h:OneS w A P vb l) (hs:w.heap.size<=w'.heap.size) (hk:∀g,g<w.heap.size->P g->w'.heap[g]?=w.heap[g]?/\P' g):OneS w' A P' vb l:=by
 have h1:=h.lt;refine⟨?_,λh0 ad e=>⟨(hk _ (h1 h0 ad e) (h.rno h0 ad e).1).2,(h.rno h0 ad e).2⟩,λx hx=>(h.each x hx).step hs hk⟩;rcases Nat.eq_zero_or_pos l.length with h0|h0
 · exact⟨rfl,λj y hy=>by have:=(List.getElem?_eq_some_iff.1 hy).1;omega⟩
 · exact(h.row.keep hs λad e _ _=>(hk _ (h1 h0 ad e) (h.rno h0 ad e).1).1).more hs
theorem OneS.app (h:OneS w A P vb l) (hg:w.grownBy w' vb):OneS w' A P vb l:=by
 have h1:=h.lt;refine⟨?_,h.rno,λx hx=>(h.each x hx).app hg (.inl rfl)⟩;rcases Nat.eq_zero_or_pos l.length with h0|h0
 · exact⟨rfl,λj y hy=>by have:=(List.getElem?_eq_some_iff.1 hy).1;omega⟩
 · exact(h.row.keep hg.size λad e _ _=>hg.block _ (h1 h0 ad e) (λe2=>(h.rno h0 ad e).2 e2.symm)).more hg.size
theorem OneS.fed {w0:World} {ow ow0:Nat->Tg} (hP:∀g,ow g= .no->(ow0 g= .no->w0.heap.size<=g)->P g) (h3:∀g,vb=some g->ow0 g= .no/\g<w0.heap.size) (hr:Cm.RS evC 7 w w.heap.size A l.length l) (ht:0<l.length->∀ad,A=some ad->ow ad.block= .no/\(ow0 ad.block= .no->w0.heap.size<=ad.block))
 (he:∀x∈l,EvR w ow x/\EvN w0 ow0 x) (hz:∀x∈l,x.l.length<=1000000000):OneS w A P vb l:=by
 refine⟨hr,λh0 ad e=>⟨hP _ (ht h0 ad e).1 (ht h0 ad e).2,λe2=>?_⟩,λx hx=>EvA.fed (he x hx).1 (he x hx).2 (hz x hx) hP h3⟩;obtain⟨h1,h2⟩:=h3 _ e2;have:=(ht h0 ad e).2 h1;omega
end
structure TwoS (w0 w:World) (v:Value) (P:Nat->Prop) (l:List EvV):Prop where
 row:Cm.Ew evC 43 7 w w0.heap.size v l
 rno:∀g,v.ownBlock=some g->P g
 each:∀x∈l,EvA w P v.ownBlock x
section
variable {w0 w w':World} {P P':Nat->Prop} {v v':Value} {l l1:List EvV}
theorem TwoS.nil (w0 w:World) (P:Nat->Prop):TwoS w0 w (.slice none 0 0) P []:=⟨Cm.Ew.nil _ _ _ _ _,λg e=>(by cases e),λx hx=>(by cases hx)⟩
theorem TwoS.step (h:TwoS w0 w v P l) (hs:w.heap.size<=w'.heap.size) (hk:∀g,g<w.heap.size->P g->w'.heap[g]?=w.heap[g]?/\P' g):TwoS w0 w' v P' l:=by
 refine⟨?_,λg e=>(hk g (h.row.lt g e).2 (h.rno g e)).2,λx hx=>(h.each x hx).step hs hk⟩;rcases h.row.2 with h0|⟨g,cap,cur,rfl,hb,hg,r⟩
 · exact⟨h.row.1,.inl h0⟩
 · exact⟨h.row.1,.inr ⟨g,cap,cur,rfl,hb,(hk g (Array.getElem?_eq_some_iff.1 hg).1 (h.rno g rfl)).1.trans hg,r⟩⟩
theorem TwoS.next {w1 w2:World} {ow ow0:Nat->Tg} (h:TwoS w0 w v P l) (hs:w.heap.size<=w1.heap.size) (hk:∀g,g<w.heap.size->P g->w1.heap[g]?=w.heap[g]?/\P' g) (hP:∀g,ow g= .no->(ow0 g= .no->w.heap.size<=g)->P' g) (h0:∀g,P g->ow0 g= .no) (hnew:P' w1.heap.size) (hrow:Cm.Ew evC 43 7 w2 w0.heap.size v' (l++l1)) (hg:w1.grownBy w2 v.ownBlock) (hv:v'.ownBlock=v.ownBlock\/v'.ownBlock=some w1.heap.size)
 (he:∀x∈l1,EvR w1 ow x/\EvN w ow0 x) (hz:∀x∈l1,x.l.length<=1000000000):TwoS w0 w2 v' P' (l++l1):=by
 have h1:=h.step hs hk;refine⟨hrow,λg e=>?_,λx hx=>?_⟩
 · rcases hv with e2|e2
   · exact h1.rno g (e2▸e)
   · rw[e2]at e
     injection e with e
     subst e;exact hnew
 · rcases List.mem_append.1 hx with hx|hx
   · exact(h1.each x hx).app hg hv
   · obtain⟨a,b⟩:=he x hx
     exact(EvA.fed a b (hz x hx) hP (λg e=>⟨h0 g (h.rno g e),(h.row.lt g e).2⟩)).app hg hv
end
structure Yk (M0:Cv) (L:List UInt8) (at_:Nat) (My:Cv) (l:List EvV) (n:Nat) (Q:Ks) (e:List EvV) (y:List UInt8):Prop where
 go:Goes 0 (.up (nf M0)) (L.take at_) n Q e y
 is:Q.is My
 fed:My.dead=false->My.fed=y
 evs:l.map enE=e
theorem Yk.next {M0 My M':Cv} {L:List UInt8} {at_ k:Nat} {l:List EvV} {n:Nat} {Q:Ks} {e:List EvV} {y:List UInt8} (h:Yk M0 L at_ My l n Q e y) {n':Nat} {Q':Ks} {e':List EvV} {y':List UInt8} (hg:Goes n Q (y++(L.drop at_).take k) n' Q' e' y') (hi:Q'.is M') (he:M'.evs.map enE=e') (hf:M'.dead=false->M'.fed=y'):Yk M0 L (at_+k) {M' with evs:=[]} (l++M'.evs) n' Q' (e++e') y':=
 ⟨by rw[List.take_add];exact goes_app h.go hg,is_evs hi,hf,by rw[List.map_append,h.evs,he]⟩
end Go.Proofs.YtkpppjhbmnfmkaaGreatDoor
end

section
namespace Go.Proofs.YtkpppjhbmnfmkaaGreatDoor
open Go.RowKit Go.Own Go.Own.Im Go.Own.Cx Go.Own.Fr Go.Own.Hd
section
variable {w0 w w':World} {oc os os':Nat->Tg} {bc bs:Nat} {Mc Ms Ms':Cv} {Lc Ls Ls':Lay}
theorem Duo.sstep (h:Duo w0 w oc bc Mc Lc os bs Ms Ls) (hc:CN w' os' bs Ms' Ls') (hf:Fr w os w' os'):Duo w0 w' oc bc Mc Lc os' bs Ms' Ls':=by
 have h0:∀g,oc g≠ .no->os g= .no:=λg hg=>by
  cases hx:os g with
  |no=>rfl
  |_=>exact absurd (h.dis g (by rw[hx];simp)) hg
 refine⟨h.c.keep hf.size λg hn hl=>hf.keep g hl (h0 g hn),hc,λg hg=>?_,λg hg=>⟨(h.old g hg).1,hf.no g (Nat.lt_of_lt_of_le hg h.b.size) (h.old g hg).2⟩,hf.toBelow h.b λg hg=>(h.old g hg).2⟩;rcases Nat.lt_or_ge g w.heap.size with h1|h1
 · cases hx:os g with
   |no=>exact absurd (hf.no g h1 hx) hg
   |_=>exact h.dis g (by rw[hx];simp)
 · exact h.c.new g h1
theorem Duo.users (h:Duo w0 w oc bc Mc Lc os bs Ms Ls) {row:Option Nat} (hg:w.grownBy w' row) (hr:∀g,row=some g->w0.heap.size<=g/\oc g= .no/\os g= .no):Duo w0 w' oc bc Mc Lc os bs Ms Ls:=by
 cases row with
 |none=>exact h.below ⟨hg.os,hg.tape,hg.output,hg.size,λg hl=>hg.block g hl (λe=>by cases e)⟩
 |some g=>exact h.user hg (hr g rfl).1 (hr g rfl).2.1 (hr g rfl).2.2
end
theorem fr_rows {wA w w':World} {oA o:Nat->Tg} (h:Fr wA oA w o) {row:Option Nat} (hg:w.grownBy w' row) (hr:∀g,row=some g->wA.heap.size<=g):Fr wA oA w' o:=
 ⟨hg.os.trans h.os,hg.tape.trans h.tape,hg.output.trans h.output,Nat.le_trans h.size hg.size,λg hl ho=>(hg.block g (Nat.lt_of_lt_of_le hl h.size) (λe=>by have:=hr g e.symm;omega)).trans (h.keep g hl ho),h.no⟩
def PcS (w wA:World) (ox:Nat->Tg) (bx:Nat) (X1:Cv) (Lx:Lay) (oA:Nat->Tg) (bz:Nat) (M0:Cv) (L:List UInt8) (wr:World) (at_:Nat) (v:Value):Prop:=
 ∃My oy Ly n Q e y evs,Duo w wr ox bx X1 Lx oy bz My Ly/\Yk M0 L at_ My evs n Q e y/\TwoS wA wr v (Nb ox oy) evs/\Fr wA oA wr oy
section
variable {w wA:World} {ox:Nat->Tg} {bx:Nat} {X1:Cv} {Lx:Lay} {oA:Nat->Tg} {bz:Nat} {M0:Cv} {L:List UInt8} {wr:World} {at_:Nat} {v:Value}
theorem PcS.b (h:PcS w wA ox bx X1 Lx oA bz M0 L wr at_ v):Below w.heap.size w wr:=by
 obtain⟨My,oy,Ly,n,Q,e,y,evs,hD,_⟩:=h;exact hD.b
theorem PcS.keeps (h:PcS w wA ox bx X1 Lx oA bz M0 L wr at_ v) {g:Nat} (hg:g<wA.heap.size) (ho:oA g= .no):wr.heap[g]?=wA.heap[g]?:=by
 obtain⟨My,oy,Ly,n,Q,e,y,evs,_,_,_,hF⟩:=h;exact hF.keep g hg ho
theorem PcS.size (h:PcS w wA ox bx X1 Lx oA bz M0 L wr at_ v):wA.heap.size<=wr.heap.size:=by
 obtain⟨My,oy,Ly,n,Q,e,y,evs,_,_,_,hF⟩:=h;exact hF.size
def PcN (w wA:World) (ox:Nat->Tg) (bx:Nat) (X1:Cv) (Lx:Lay) (oA:Nat->Tg) (bz:Nat) (M0:Cv) (L:List UInt8) (at_:Nat) (v:Value) (A:Option Addr) (n:Nat) (w':World):Prop:=
 ∃l1 evs,Cm.RS evC 7 w' w'.heap.size A n l1/\Cm.Ew evC 43 7 w' wA.heap.size v evs/\evs.length+n<=1000000/\wA.heap.size<=w'.heap.size/\
  ∀v' w'',Cm.Ew evC 43 7 w'' wA.heap.size v' (evs++l1)->w'.grownBy w'' v.ownBlock->(v'.ownBlock=v.ownBlock\/v'.ownBlock=some w'.heap.size)->PcS w wA ox bx X1 Lx oA bz M0 L w'' at_ v'
theorem PcS.feed (h:PcS w wA ox bx X1 Lx oA bz M0 L wr at_ v) (hW:EnvW w) (hh:w.heap.size<=wA.heap.size) (hi:Live 0 M0) (hL:L.length<=100000) (hat:at_<=L.length) (k:Nat) (A:Option Addr) (c:Nat) (hr:Rd wr wr.heap.size A k ((L.drop at_).take k)) (hA:0<k->∀ad,A=some ad->oA ad.block= .no/\ad.block<wA.heap.size):
 Calls Tryz.prog 10 #[.pointer (some ⟨bz,0,none⟩),.slice A k c] wr λe w'=>∃A1 n1 c1,e= .returned (.slice A1 n1 c1)/\PcN w wA ox bx X1 Lx oA bz M0 L (at_+k) v A1 n1 w':=by
 obtain⟨My,oy,Ly,n,Q,e,y,evs,hD,hY,hT,hF⟩:=h;have hf:(L.take at_).length=at_:=by rw[List.length_take];omega
 have hj:((L.drop at_).take k).length=k:=hr.1;have hs:at_+k<=L.length:=by rw[List.length_take,List.length_drop]at hj;omega
 have h5:=goes_live hY.go hi.nf (by rw[hf];omega);rw[hf]at h5;obtain⟨n',Q',e',y',hG⟩:=goes_ex (y++(L.drop at_).take k).length n Q (y++(L.drop at_).take k) (Nat.le_refl _) h5.1 (by rw[List.length_append];omega);have h7:=goes_live hG h5.1 (by rw[List.length_append];omega);refine(feed_goes wr oy bz My Ly A k c ((L.drop at_).take k) hG h5.1 (by rw[List.length_append];omega) hY.is hY.fed (hW.of hD.b (λg hg=>(hD.old g hg).2)) hD.s hr (λh0 ad e=>hF.no _ (hA h0 ad e).2 (hA h0 ad e).1)).mono ?_;rintro x w1 ⟨M',A1,c1,oy1,Ly1,⟨hk,h8,hl⟩,rfl,ho,hm,h6,hb,ht,hc⟩;have h9:=hD.sstep hm h6;have hn:∀x∈M'.evs,x.l.length<=10000:=λx hx=>h7.2.2.2 (enE x) (by rw[<-h8];exact List.mem_map.2 ⟨x,hx,rfl⟩);have hu:evs.length=e.length:=by rw[<-hY.evs,List.length_map]
 have hq:M'.evs.length=e'.length:=by rw[<-h8,List.length_map]
 have hw:=h5.2.1;have hd:=h7.2.1;rw[List.length_append]at hd;have h3:=h5.2.2.1;have h4:=h7.2.2.1;refine⟨A1,M'.evs.length,c1,rfl,M'.evs,evs,hb,(hT.step h6.size (fr_y h6)).row,by omega,Nat.le_trans hF.size h6.size,λv' w'' he hg hv=>?_⟩;refine⟨{M' with evs:=[]},oy1,Ly1,n',Q',e++e',y',evs++M'.evs,?_,hY.next hG hk h8 hl,hT.next (P':=Nb ox oy1) h6.size (fr_y h6) (λg h1 h2=>⟨other_no (dis_back hD.dis) hD.c.new g h2,h1⟩) (λg h=>h.2) ⟨h9.c.new _ (Nat.le_refl _),h9.s.new _ (Nat.le_refl _)⟩ he hg hv hc (λx hx=>by have:=hn x hx;omega),?_⟩
 · exact h9.users hg λg eg=>⟨Nat.le_trans hh (hT.row.lt g eg).1,(hT.rno g eg).1,h6.no g (hT.row.lt g eg).2 (hT.rno g eg).2⟩
 · exact fr_rows (hF.trans h6) hg λg eg=>(hT.row.lt g eg).1
theorem PcS.start {oy:Nat->Tg} {Ly:Lay} (hD:Duo w wr ox bx X1 Lx oy bz M0 Ly) (h0:Live 0 M0) (hf:M0.fed=[]):PcS w wr ox bx X1 Lx oy bz M0 L wr 0 (.slice none 0 0):=by
 refine⟨M0,oy,Ly,0,.up (nf M0),[],[],[],hD,⟨.short ?_,⟨rfl,h0.dead⟩,λ_=>hf,rfl⟩,TwoS.nil _ _ _,Fr.refl _ _⟩;have hp:=h0.pref;rw[List.take_zero];by_cases h:M0.preface<24
 · exact .inl ⟨h,rfl⟩
 · exact .inr ⟨(by omega:M0.preface=24),.inl (by decide)⟩
end
end Go.Proofs.YtkpppjhbmnfmkaaGreatDoor
end

section
set_option maxHeartbeats 4000000
set_option maxRecDepth 100000
namespace Go.Proofs.YtkpppjhbmnfmkaaGreatDoor
open Lib (hid)
open Go.RowKit Go.Own Go.Own.Im Go.Own.Cx Go.Own.Fr Go.Own.Hd
theorem pieces_big (w:World) (hW:EnvW w) (side cw cs:Int) (st:Bool) (A:Option Addr) (n c:Nat) (A2:Option Addr) (m c2:Nat) (h:16384<n\/200<m):
 Calls Tryz.prog 4 #[.int .i64 side,.agg #[.int .i64 cw,.int .i64 cs],.bool st,.slice A n c,.slice A2 m c2] w λe w'=>e= .returned (.bool true)/\Below w.heap.size w w':=by
 have h0:=hid ((Below.refl w.heap.size w).alloc (Nat.le_refl _) (.cells #[.int .i64 cw,.int .i64 cs] 32));have HF:=hid (first_any (w.alloc (.cells #[.int .i64 cw,.int .i64 cs] 32)) (hW.below h0.out));have k:((16384:Int)<(n:Int))=True\/(((16384:Int)<(n:Int))=False/\((200:Int)<(m:Int))=True):=by
  simp only[eq_iff_iff,iff_true,iff_false];omega
 clear h hW;rcases k with k0|⟨k0,k1⟩
 all_goals
  go_enter Tryz.func4,Tryz.ntmps4;go_upto_region 1 with fail;generalize w.alloc (.cells #[.int .i64 cw,.int .i64 cs] 32)=W0 at*
  go_wp2_with fail;refine HF.out.mono ?_;rintro e w1 ⟨rfl,h1⟩;have h2:=hid (h0.out.trans (h1.mono h0.out.size));clear h1;go_wp2_with fail;go_ret;exact⟨rfl,h2.out⟩
theorem pieces_none (w:World) (side cw cs:Int) (st:Bool) (A:Option Addr) (n c:Nat) (A2:Option Addr) (m c2:Nat) {a1 a2:Addr} (a:Addr) (hE:EnvS w a1 a2) (hn:n<=16384) (hm:m<=200)
 (hN:∀W,EnvS W a1 a2->Calls Tryz.prog 9 #[.int .i64 side,.agg #[.int .i64 cw,.int .i64 cs]] W λe w'=>e= .returned (.tuple #[.pointer none,.iface 327 (.pointer (some a))])/\Below W.heap.size W w'):
 Calls Tryz.prog 4 #[.int .i64 side,.agg #[.int .i64 cw,.int .i64 cs],.bool st,.slice A n c,.slice A2 m c2] w λe w'=>e= .returned (.bool true)/\Below w.heap.size w w':=by
 have HE:=hid hE;have HX:=hid (Blk.new w 32 #[.int .i64 cw,.int .i64 cs]);have h1:=hid ((Below.refl w.heap.size w).alloc (Nat.le_refl _) (.cells #[.int .i64 cw,.int .i64 cs] 32));have h6:=hid hN;have k0:((16384:Int)<(n:Int))=False:=by simp;omega
 have k1:((200:Int)<(m:Int))=False:=by simp;omega
 clear hE hN hn hm;go_enter Tryz.func4,Tryz.ntmps4;go_upto_region 1 with fail;generalize w.alloc (.cells #[.int .i64 cw,.int .i64 cs] 32)=W0 at*
 go_wp2_with fail;refine(first_any W0 (HE.out.below h1.out).wd).mono ?_;rintro e w1 ⟨rfl,h2⟩;have h3:=hid (h1.out.trans (h2.mono h1.out.size));have h0:=hid (HX.out.below h2 HX.out.lt);clear h2;have x0:w1.cell? ⟨w.heap.size,0,none⟩=some (.int .i64 cw):=h0.out.cell 0;have x1:w1.cell? ⟨w.heap.size,1,none⟩=some (.int .i64 cs):=h0.out.cell 1;go_wp2_with fail;refine(h6.out w1 (HE.out.below h3.out)).mono ?_;rintro e w2 ⟨rfl,h4⟩;have h5:=hid (h3.out.trans (h4.mono h3.out.size));have h7:=hid (h0.out.below h4 h0.out.lt);clear x0 x1 h4;have x0:w2.cell? ⟨w.heap.size,0,none⟩=some (.int .i64 cw):=h7.out.cell 0;have x1:w2.cell? ⟨w.heap.size,1,none⟩=some (.int .i64 cs):=h7.out.cell 1;go_wp2_with fail;refine(h6.out w2 (HE.out.below h5.out)).mono ?_;rintro e w3 ⟨rfl,h8⟩;have h9:=hid (h5.out.trans (h8.mono h5.out.size));clear x0 x1 h8;go_wp2;go_ret;exact⟨rfl,h9.out⟩
end Go.Proofs.YtkpppjhbmnfmkaaGreatDoor
end
