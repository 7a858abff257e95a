/-
  
  
  
  
  
-/
import Derived.Test.YtkpppjhbmnfmkaaGreatDoorJaf
import Derived.Deep.RegionHeld3
import Derived.Deep.RegionLaw
import Derived.Test.YtkpppjhbmnfmkaaGreatDoorJab
import Derived.Maps.RangeWalk
import Derived.Laws.StructEq
import Derived.Deep.QuietTactic
import Derived.BigQuiet
set_option linter.unusedSimpArgs false
set_option linter.unusedVariables false
section
set_option maxHeartbeats 1000000
set_option maxRecDepth 100000
namespace Go.Proofs.YtkpppjhbmnfmkaaGreatDoor
open Lib (hid)
open Go.RowKit Go.Own Go.Own.Fr Go.Own.Im
theorem data_any (i:Inf) (sv dv:Value) (W:World):Calls Tryz.prog 176 #[.agg (infC i sv dv)] W λe w'=>e= .returned dv/\Below W.heap.size W w':=by
 have h0:(infC i sv dv)[17]?=some dv:=rfl;go_enter Tryz.func176,Tryz.ntmps176;go_wp2;go_ret;exact⟨rfl,(Below.refl _ _).alloc (Nat.le_refl _) _⟩
theorem wrReset (i:Inf) (sv dv:Value) (W:World) (hc:i.code<9223372036854775808):Calls Tryz.prog 184 #[.agg (infC i sv dv)] W λe w'=>∃v,e= .returned v/\Ow w' W.heap.size 5 v 4 (be i.code 4)/\Below W.heap.size W w':=by
 have h0:(infC i sv dv)[12]?=some (.int .i64 (i.code:Nat)):=rfl;have HN:=hid (λ(w:World) (hw:W.heap.size<=w.heap.size)=>number_any (.slice none 0 0) 0 [] i.code 4 W.heap.size w (ow_nil _ _ _) hw (by omega) (by omega) hc);clear hc;go_enter Tryz.func184,Tryz.ntmps184;go_wp2_with fail;refine(HN.out _ (by simp)).mono ?_;rintro e w1 ⟨v,rfl,ho,hg,_⟩;have HO:=hid ho;have HB:=hid (((Below.refl W.heap.size W).alloc (Nat.le_refl _) (.cells (infC i sv dv) 91)).grown hg (by simp) (λg e=>by cases e));clear ho hg;go_wp2;go_ret;exact⟨v,rfl,by simpa using HO.out,HB.out⟩
theorem wrWindow (i:Inf) (sv dv:Value) (W:World) (hc:i.inc<9223372036854775808):Calls Tryz.prog 192 #[.agg (infC i sv dv)] W λe w'=>∃v,e= .returned v/\Ow w' W.heap.size 5 v 4 (be i.inc 4)/\Below W.heap.size W w':=by
 have h0:(infC i sv dv)[14]?=some (.int .i64 (i.inc:Nat)):=rfl;have HN:=hid (λ(w:World) (hw:W.heap.size<=w.heap.size)=>number_any (.slice none 0 0) 0 [] i.inc 4 W.heap.size w (ow_nil _ _ _) hw (by omega) (by omega) hc);clear hc;go_enter Tryz.func192,Tryz.ntmps192;go_wp2_with fail;refine(HN.out _ (by simp)).mono ?_;rintro e w1 ⟨v,rfl,ho,hg,_⟩;have HO:=hid ho;have HB:=hid (((Below.refl W.heap.size W).alloc (Nat.le_refl _) (.cells (infC i sv dv) 91)).grown hg (by simp) (λg e=>by cases e));clear ho hg;go_wp2;go_ret;exact⟨v,rfl,by simpa using HO.out,HB.out⟩
end Go.Proofs.YtkpppjhbmnfmkaaGreatDoor
end

section
set_option maxHeartbeats 4000000
set_option maxRecDepth 100000
namespace Go.Proofs.YtkpppjhbmnfmkaaGreatDoor
open Lib (hid)
open Go.RowKit Go.Own Go.Own.Fr Go.Own.Im
theorem fword_yes (n:Int) (w:World) (h0:0<=n) (h1:n<4294967296):Calls Tryz.prog 142 #[.int .i64 n] w λe w'=>e= .returned (.bool true)/\w=w':=by
 go_enter Tryz.func142,Tryz.ntmps142;go_wp2;go_ret;exact⟨rfl,rfl⟩
structure FitI (i:Inf):Prop where
 few:i.sets.length<=1000000
 sets:∀s∈i.sets,s.1<=65535/\s.2<4294967296
 typ:i.typ<=255
 flags:i.flags<=255
 stream:i.stream<=2147483647
 pad:i.pad<=255
 dep:i.dep<=2147483647
 weight:i.weight<=256
 code:i.code<4294967296
 last:i.last<=2147483647
 inc:i.inc<=2147483647
 promise:i.promise<=2147483647
def SetR (w:World) (v:Value) (l:List (Nat×Nat)):Prop:=∃A c,v= .slice A l.length c/\l.length<=c/\Cm.RS setC 2 w w.heap.size A l.length l
theorem SetR.of_own {w:World} {base:Nat} {v:Value} {l:List (Nat×Nat)} (h:SetO w base v l):SetR w v l:=by
 obtain⟨A,c,rfl,h1,_⟩:=h.form;exact⟨A,c,rfl,h1,h.rs (λ_=>rfl) (by omega)⟩
theorem SetR.below {w w':World} {v:Value} {l:List (Nat×Nat)} (h:SetR w v l) (hb:Below w.heap.size w w'):SetR w' v l:=by
 obtain⟨A,c,rfl,h1,h2⟩:=h;exact⟨A,c,rfl,h1,(h2.below hb).more hb.size⟩
theorem SetR.at_ {w:World} {A:Option Addr} {c k:Nat} {l:List (Nat×Nat)} (h:SetR w (.slice A l.length c) l) (hk:k<l.length):∃ad,A=some ad/\ad.block<w.heap.size/\w.cell? (ad.add (k*2))=some (.int .i64 ((l.getD k (0,0)).1:Nat))/\w.cell? ⟨(ad.add (k*2)).block,(ad.add (k*2)).off+1,none⟩=some (.int .i64 ((l.getD k (0,0)).2:Nat)):=by
 obtain⟨A',c',e,_,h2⟩:=h;injection e with e1 _ _
 subst e1;obtain⟨ad,e,h3,h4,h5,h6⟩:=h2.2 k l[k] (List.getElem?_eq_getElem hk);have e2:l.getD k (0,0)=l[k]:=by simp[List.getD,hk]
 refine⟨ad,e,h4,?_,?_⟩
 · rw[h5,e2];rfl
 · rw[e2];exact h6 1 _ (by omega) rfl
theorem fit_any (i:Inf) (sv dv:Value) (W:World) (hf:FitI i) (hs:SetR W sv i.sets):Calls Tryz.prog 100 #[.agg (infC i sv dv)] W λe w'=>e= .returned (.bool true)/\Below W.heap.size W w':=by
 obtain⟨A,c,rfl,hc,h2⟩:=hs;have HX:=hid (Blk.new W 91 (infC i (.slice A i.sets.length c) dv));have h3:=hid ((Below.refl W.heap.size W).alloc (Nat.le_refl _) (.cells (infC i (.slice A i.sets.length c) dv) 91));have h4:=hid (show SetR (W.alloc (.cells (infC i (.slice A i.sets.length c) dv) 91)) (.slice A i.sets.length c) i.sets from SetR.below (w:=W) ⟨A,c,rfl,hc,h2⟩ h3.out);have HF:=hid hf;have hj:=hf.few;clear hf h2;go_enter Tryz.func100,Tryz.ntmps100;go_upto_region 1 with fail;generalize h5:W.alloc (.cells (infC i (.slice A i.sets.length c) dv) 91)=W0 at*
 have HZ:=hid (show W0.heap.size=W.heap.size+1 by rw[<-h5];simp);clear h5;have c16:W0.cell? ⟨W.heap.size,16,none⟩=some (.slice A i.sets.length c):=HX.out.cell 16;go_wp2;go_loopw [8] (λt wr=>Hid (∃k:Nat,k<=i.sets.length/\t= .int .i64 (k:Nat)/\Below W0.heap.size W0 wr)) (λt _=>i.sets.length-(intOf t).toNat)
 case atStart=>exact hid ⟨0,Nat.zero_le _,rfl,Below.refl _ _⟩
 case round=>
  obtain⟨k,hk,rfl,hb⟩:=hrel.out;clear hrel;by_cases h6:k<i.sets.length
  · obtain⟨ad,rfl,hl,d0,d1⟩:=(h4.out.below hb).at_ h6
    have hx:=HF.out.sets (i.sets.getD k (0,0)) (by simp[List.getD,h6]);obtain⟨⟨x,y⟩,h7⟩:∃p,i.sets.getD k (0,0)=p:=⟨_,rfl⟩;rw[h7]at d0 d1 hx;simp only at d0 d1 hx;have x0:(0:Int)<=(x:Int):=by omega
    have x1:(x:Int)<=65535:=by omega
    have hi:=hid (λW=>fword_yes (y:Int) W (by omega) (by omega));have h1:=hid hb;clear h7 hx hb;go_wp2_with (first
     |((with_reducible refine(hi.out _).mono ?_);rintro e w' ⟨rfl,rfl⟩)
     |fail)
    exact⟨hid ⟨k+1,by omega,by go_num,h1.out.alloc h1.out.size _⟩,by simp[intOf];omega⟩
  · have h0:=HF.out
    have hX:=HX.out.below hb HX.out.lt;have d0:wr.cell? ⟨W.heap.size,0,none⟩=some (.int .i64 (i.typ:Nat)):=hX.cell 0;have d1:wr.cell? ⟨W.heap.size,1,none⟩=some (.int .i64 (i.flags:Nat)):=hX.cell 1;have d2:wr.cell? ⟨W.heap.size,2,none⟩=some (.int .i64 (i.stream:Nat)):=hX.cell 2;have d9:wr.cell? ⟨W.heap.size,9,none⟩=some (.int .i64 (i.pad:Nat)):=hX.cell 9;have d10:wr.cell? ⟨W.heap.size,10,none⟩=some (.int .i64 (i.dep:Nat)):=hX.cell 10;have d11:wr.cell? ⟨W.heap.size,11,none⟩=some (.int .i64 (i.weight:Nat)):=hX.cell 11;have d12:wr.cell? ⟨W.heap.size,12,none⟩=some (.int .i64 (i.code:Nat)):=hX.cell 12;have d13:wr.cell? ⟨W.heap.size,13,none⟩=some (.int .i64 (i.last:Nat)):=hX.cell 13;have d14:wr.cell? ⟨W.heap.size,14,none⟩=some (.int .i64 (i.inc:Nat)):=hX.cell 14;have d15:wr.cell? ⟨W.heap.size,15,none⟩=some (.int .i64 (i.promise:Nat)):=hX.cell 15;have H0:=hid (byteOf_yes (i.typ:Int) wr (by omega) (by have:=h0.typ;omega));have H1:=hid (byteOf_yes (i.flags:Int) wr (by omega) (by have:=h0.flags;omega));have H2:=hid (fstream_yes (i.stream:Int) wr (by omega) (by have:=h0.stream;omega));have H9:=hid (byteOf_yes (i.pad:Int) wr (by omega) (by have:=h0.pad;omega));have h8:=hid (fstream_yes (i.dep:Int) wr (by omega) (by have:=h0.dep;omega));have h9:=hid (fword_yes (i.code:Int) wr (by omega) (by have:=h0.code;omega));have hd:=hid (fstream_yes (i.last:Int) wr (by omega) (by have:=h0.last;omega));have he:=hid (fstream_yes (i.inc:Int) wr (by omega) (by have:=h0.inc;omega));have hh:=hid (fstream_yes (i.promise:Int) wr (by omega) (by have:=h0.promise;omega));have w0:(0:Int)<=(i.weight:Int):=by omega
    have w1:(i.weight:Int)<=256:=by have:=h0.weight;omega
    have h1:=hid (h3.out.trans (hb.mono (by have:=HZ.out;omega)));have hm:¬(k:Int)<(i.sets.length:Int):=by omega
    clear hb hX h0 HX h4 HF c16;generalize i.typ=n0 at d0 H0;generalize i.flags=n1 at d1 H1;generalize i.stream=n2 at d2 H2;generalize i.pad=n9 at d9 H9;generalize i.dep=n10 at d10 h8;generalize i.weight=n11 at d11 w0 w1;generalize i.code=n12 at d12 h9;generalize i.last=n13 at d13 hd;generalize i.inc=n14 at d14 he;generalize i.promise=n15 at d15 hh;generalize i.sets.length=nl at*
    generalize infC i (Value.slice A nl c) dv=cs at*
    as_aux_lemma=>
     go_wp2_with (first
      |((with_reducible refine H0.out.mono ?_);rintro e w' ⟨rfl,hw⟩;subst w')
      |((with_reducible refine H1.out.mono ?_);rintro e w' ⟨rfl,hw⟩;subst w')
      |((with_reducible refine H2.out.mono ?_);rintro e w' ⟨rfl,hw⟩;subst w')
      |((with_reducible refine H9.out.mono ?_);rintro e w' ⟨rfl,hw⟩;subst w')
      |((with_reducible refine h8.out.mono ?_);rintro e w' ⟨rfl,hw⟩;subst w')
      |((with_reducible refine h9.out.mono ?_);rintro e w' ⟨rfl,hw⟩;try subst w')
      |((with_reducible refine hd.out.mono ?_);rintro e w' ⟨rfl,hw⟩;subst w')
      |((with_reducible refine he.out.mono ?_);rintro e w' ⟨rfl,hw⟩;subst w')
      |((with_reducible refine hh.out.mono ?_);rintro e w' ⟨rfl,hw⟩;subst w')
      |fail)
     go_ret;exact⟨rfl,h1.out⟩
end Go.Proofs.YtkpppjhbmnfmkaaGreatDoor
end

section
set_option maxHeartbeats 8000000
set_option maxRecDepth 100000
namespace Go.Proofs.YtkpppjhbmnfmkaaGreatDoor
open Lib (hid)
open Go.RowKit Go.Own Go.Own.Fr Go.Own.Im
theorem wrAway (i:Inf) (sv:Value) (A:Option Addr) (n c B:Nat) (W:World) (hr:Rd W B A n i.data) (hB:B<=W.heap.size) (hn:n<=1000000) (h1:i.last<9223372036854775808) (h2:i.code<9223372036854775808):
 Calls Tryz.prog 190 #[.agg (infC i sv (.slice A n c))] W λe w'=>∃v,e= .returned v/\Ow w' W.heap.size 5 v (8+n) (be i.last 4++(be i.code 4++i.data))/\Below W.heap.size W w':=by
 have HX:=hid (Blk.new W 91 (infC i sv (.slice A n c)));have hj:=hid ((Below.refl W.heap.size W).alloc (Nat.le_refl _) (.cells (infC i sv (.slice A n c)) 91));have HR:=hid hr;have H1:=hid h1;have H2:=hid h2;clear h1 h2 hr;obtain⟨dat,h6⟩:∃d,i.data=d:=⟨_,rfl⟩;rw[h6]at HR ⊢;clear h6;obtain⟨la,h8⟩:∃d,i.last=d:=⟨_,rfl⟩;obtain⟨co,h9⟩:∃d,i.code=d:=⟨_,rfl⟩;have hw:=hid (λW' (h:Blk W' W.heap.size 91 (infC i sv (.slice A n c)))=>(show W'.cell? ⟨W.heap.size,12,none⟩=some (.int .i64 (co:Nat))/\W'.cell? ⟨W.heap.size,13,none⟩=some (.int .i64 (la:Nat))/\W'.cell? ⟨W.heap.size,17,none⟩=some (.slice A n c)from
  ⟨by rw[<-h9];exact h.cell 12,by rw[<-h8];exact h.cell 13,h.cell 17⟩))
 rw[h8]at H1 ⊢;rw[h9]at H2 ⊢;clear h8 h9;go_enter Tryz.func190,Tryz.ntmps190;go_upto_region 1 with fail;generalize infC i sv (Value.slice A n c)=cs at*
 have HZ:=hid (show(W.alloc (.cells cs 91)).heap.size=W.heap.size+1 by simp);generalize W.alloc (.cells cs 91)=W0 at*
 have h5:=hid (λW' (hW:Below W0.heap.size W0 W')=>hw.out W' (HX.out.below hW HX.out.lt));have hk:=hid (h5.out W0 (Below.refl _ _));have he:=hid (show W0.drew.cell? ⟨W.heap.size,12,none⟩=some (.int .i64 (co:Nat))/\W0.drew.cell? ⟨W.heap.size,13,none⟩=some (.int .i64 (la:Nat))/\W0.drew.cell? ⟨W.heap.size,17,none⟩=some (.slice A n c)from hk.out);have hA:=hid (λ(Wd:World) (hW:W0.heap.size<=Wd.heap.size)=>number_any (.slice none 0 0) 0 [] la 4 W0.heap.size Wd (ow_nil _ _ _) hW (by omega) (by omega) H1.out);go_region_held3 (λW'=>W'.cell? ⟨W.heap.size,12,none⟩=some (.int .i64 (co:Nat))/\W'.cell? ⟨W.heap.size,13,none⟩=some (.int .i64 (la:Nat))/\W'.cell? ⟨W.heap.size,17,none⟩=some (.slice A n c)) (first|with_reducible exact hk.out|with_reducible exact he.out|with_reducible exact hC.out|with_reducible exact hf.out|with_reducible exact hD.out|with_reducible exact hh.out|with_reducible exact hE.out|with_reducible exact hi.out) (first
  |(go_at_call 108
    with_reducible refine Calls.mono (hA.out _ ?_) ?_
    · exact Nat.le_refl _
    rintro e w1 ⟨v1,rfl,hb,hl,_⟩;obtain⟨A1,cap1,rfl,_,_,_⟩:=hb.form;have h3:Below W0.heap.size W0 w1:=below_of_drew ((Below.refl _ W0.drew).grown hl (Nat.le_refl _) (λg e=>by cases e));have hc:=hid h3;have h7:=hid (show Ow w1 W0.heap.size 5 (.slice A1 (0+4) cap1) (0+4) ([]++be la 4)from hb);have hC:=hid (h5.out w1 h3);have hf:=hid (h5.out w1.drew ⟨h3.os,h3.tape,h3.output,h3.size,h3.block⟩);clear hb hl h3)
  |(go_at_call 108
    have hI:=h7;refine(number_any (.slice A1 (0+4) cap1) (0+4) ([]++be la 4) co 4 W0.heap.size _ h7.out hc.out.size (by omega) (by omega) H2.out).mono ?_;rintro e w2 ⟨v2,rfl,hd,hm,_⟩;obtain⟨A2,cap2,rfl,_,_,_⟩:=hd.form;have h0:=below_own hc.out (Nat.le_refl _) h7.out hm;have hq:=hid h0;have hs:=hid hd;have hD:=hid (h5.out w2 h0);have hh:=hid (h5.out w2.drew ⟨h0.os,h0.tape,h0.output,h0.size,h0.block⟩);have hF:=hid (((HR.out.more hB).below hj.out).below (h0.mono (by have:=HZ.out;omega)));clear hd hm h0 h7 hc)
  |(refine step_app byteP _ (by rfl) (.tmp 8) (.tmp 10) (by rfl) W0.heap.size _ (0+4+4) (([]++be la 4)++be co 4) (by rfl) hs.out W.heap.size A n c dat (by rfl) hF.out ?_ ?_ ?_
    · omega
    · exact hq.out.size
    intro A3 cap3 w3 ht hu _ _;have h4:=below_own hq.out (Nat.le_refl _) hs.out hu;have hG:=hid h4;have hH:=hid ht;have hE:=hid (h5.out w3 h4);have hi:=hid (h5.out w3.drew ⟨h4.os,h4.tape,h4.output,h4.size,h4.block⟩);clear ht hu h4)
  |fail)
 all_goals
  go_wp2;go_ret;have ho:=hH.out;simp only[Nat.zero_add,List.nil_append,List.append_assoc,Nat.reduceAdd]at ho ⊢;exact⟨_,rfl,ho.base (by have:=HZ.out;omega),hj.out.trans (hG.out.mono (by have:=HZ.out;omega))⟩
structure WsJ (W0:World) (l:List (Nat×Nat)) (t tk:Value) (wr:World) (k:Nat) (A:Option Addr) (c:Nat):Prop where
 le:k<=l.length
 val:t= .slice A (6*k) c
 cnt:tk= .int .i64 (k:Nat)
 own:Ow wr W0.heap.size 5 (.slice A (6*k) c) (6*k) (setB (l.take k))
 bel:Below W0.heap.size W0 wr
theorem setB_snoc (l:List (Nat×Nat)) (x:Nat×Nat):setB (l++[x])=setB l++(be x.1 2++be x.2 4):=by
 induction l with
 |nil=>simp[setB]
 |cons y l ih=>simp[setB,ih]
theorem setB_take {l:List (Nat×Nat)} {k:Nat} {a v:Nat} (h:k<l.length) (hx:l.getD k (0,0)=(a,v)):setB (l.take (k+1))=(setB (l.take k)++be a 2)++be v 4:=by
 have e:l.take (k+1)=l.take k++[(a,v)]:=by
  rw[List.take_succ_eq_append_getElem h,<-hx];simp[List.getD,h]
 rw[e,setB_snoc];simp
theorem wrSets0 (cs:Array Value) (l:List (Nat×Nat)) (sv:Value) (W:World) (hk:cs[16]?=some sv) (hs:SetR W sv l) (hl:l.length<=100000) (hb:∀s∈l,s.1<9223372036854775808/\s.2<9223372036854775808):
 Calls Tryz.prog 186 #[.agg cs] W λe w'=>∃v,e= .returned v/\Ow w' W.heap.size 5 v (6*l.length) (setB l)/\Below W.heap.size W w':=by
 obtain⟨A,c,rfl,hc,hm⟩:=hs;have HX:=hid (Blk.new W 91 cs);have hn:=hid ((Below.refl W.heap.size W).alloc (Nat.le_refl _) (.cells cs 91));have hJ:=hid (show SetR (W.alloc (.cells cs 91)) (.slice A l.length c) l from SetR.below (w:=W) ⟨A,c,rfl,hc,hm⟩ hn.out);have hK:=hid (λW' (h:Blk W' W.heap.size 91 cs)=>(show W'.cell? ⟨W.heap.size,16,none⟩=some (.slice A l.length c)from(h.cell 16).trans hk));have hL:=hid hb;clear hm hb hk;go_enter Tryz.func186,Tryz.ntmps186;go_upto_region 2 with fail;have HZ:=hid (show(W.alloc (.cells cs 91)).heap.size=W.heap.size+1 by simp);generalize W.alloc (.cells cs 91)=W0 at*
 have c16:=hK.out W0 HX.out;go_wp2;go_loopw [3,9] (λt tk wr=>Hid (∃k A c,WsJ W0 l t tk wr k A c)) (λ_ tk _=>l.length-(intOf tk).toNat)
 case atStart=>exact hid ⟨0,none,0,Nat.zero_le _,rfl,rfl,by simpa [setB]using ow_nil W0 W0.heap.size _,Below.refl _ _⟩
 case round=>
  obtain⟨k,A1,c1,hj⟩:=hrel.out;clear hrel;obtain rfl:=hj.val;obtain rfl:=hj.cnt;rcases Nat.lt_or_ge k l.length with h0|hR
  · obtain⟨ad,rfl,hS,d0,d1⟩:=(hJ.out.below hj.bel).at_ h0
    obtain⟨⟨x,y⟩,h1⟩:∃p,l.getD k (0,0)=p:=⟨_,rfl⟩;have HT:=hid (setB_take h0 h1);have hx:=hL.out (l.getD k (0,0)) (by simp[List.getD,h0]);rw[h1]at d0 d1 hx;simp only at d0 d1 hx;have HJ:=hid hj;have hq:=hid hx;clear h1 hx hj c16;go_upto_region 5 with fail;have HN:=hid (Blk.new wr 87 #[.int .i64 (x:Nat),.int .i64 (y:Nat)]);have ht:=hid (HJ.out.bel.alloc HJ.out.bel.size (.cells #[.int .i64 (x:Nat),.int .i64 (y:Nat)] 87));have hu:=hid (HJ.out.own.alloc (.cells #[.int .i64 (x:Nat),.int .i64 (y:Nat)] 87));have hw:=hid (show∀g,(Value.slice A1 (6*k) c1).ownBlock=some g->g<wr.heap.size/\W0.heap.size<=g fromλg e=>HJ.out.own.lt e);generalize hT:wr.heap.size=gs at*
    generalize wr.alloc (.cells #[.int .i64 (x:Nat),.int .i64 (y:Nat)] 87)=wA at*
    clear d0 d1;have hA:=hid (show wA.cell? ⟨gs,0,none⟩=some (.int .i64 (x:Nat))/\wA.cell? ⟨gs,1,none⟩=some (.int .i64 (y:Nat))from⟨HN.out.cell 0,HN.out.cell 1⟩);have hf:=hid (show wA.drew.cell? ⟨gs,0,none⟩=some (.int .i64 (x:Nat))/\wA.drew.cell? ⟨gs,1,none⟩=some (.int .i64 (y:Nat))from hA.out);have hM:=hid (number_any (.slice A1 (6*k) c1) (6*k) (setB (l.take k)) x 2 W0.heap.size wA.drew hu.out ht.out.size (by omega) (by omega) hq.out.1);have hU:k<=100000:=by omega
    go_region_held3 (λW'=>W'.cell? ⟨gs,0,none⟩=some (.int .i64 (x:Nat))/\W'.cell? ⟨gs,1,none⟩=some (.int .i64 (y:Nat))) (first|with_reducible exact hA.out|with_reducible exact hf.out|with_reducible exact hC.out|with_reducible exact hh.out|with_reducible exact hD.out|with_reducible exact hi.out) (first
     |(go_at_call 108
       with_reducible refine Calls.mono hM.out ?_
       rintro e w1 ⟨v1,rfl,h4,h5,hE⟩;obtain⟨A2,cap2,rfl,_,_,_⟩:=h4.form;have hF:=below_own (bdN ht.out 1) (Nat.le_refl _) (show Ow (wA.drewN 1) W0.heap.size 5 _ _ _ from hu.out) h5;have hG:=hid hF;have h6:=hid h4;have h7:=hid ((show Blk wA.drew gs 87 _ from HN.out).grown h5 (λe=>by have:=(hw.out gs e.symm).1;omega));have hN:=hid (show(Value.slice A2 (6*k+2) cap2).ownBlock≠some gs fromλe=>by
        rcases hE with h|⟨g,h,h2⟩
        · have:=(hw.out gs (h.symm.trans e)).1;omega
        · rw[h]at e;injection e with e;have:=HN.out.lt;have h3:wA.heap.size<=g:=h2;omega)
       have hC:=hid (show w1.cell? ⟨gs,0,none⟩=some (.int .i64 (x:Nat))/\w1.cell? ⟨gs,1,none⟩=some (.int .i64 (y:Nat))from⟨h7.out.cell 0,h7.out.cell 1⟩);have hh:=hid (show w1.drew.cell? ⟨gs,0,none⟩=some (.int .i64 (x:Nat))/\w1.drew.cell? ⟨gs,1,none⟩=some (.int .i64 (y:Nat))from hC.out);clear h4 h5 hF hE)
     |(go_at_call 108
       have hV:=h6;refine(number_any (.slice A2 (6*k+2) cap2) (6*k+2) (setB (l.take k)++be x 2) y 4 W0.heap.size _ h6.out hG.out.size (by omega) (by omega) hq.out.2).mono ?_;rintro e w2 ⟨v2,rfl,h8,h9,_⟩;obtain⟨A3,cap3,rfl,_,_,_⟩:=h8.form;have hH:=below_own hG.out (Nat.le_refl _) h6.out h9;have hO:=hid hH;have hP:=hid h8;have hd:=h7.out.grown h9 (λe=>hN.out e.symm);have hD:=hid (show w2.cell? ⟨gs,0,none⟩=some (.int .i64 (x:Nat))/\w2.cell? ⟨gs,1,none⟩=some (.int .i64 (y:Nat))from⟨hd.cell 0,hd.cell 1⟩);have hi:=hid (show w2.drew.cell? ⟨gs,0,none⟩=some (.int .i64 (x:Nat))/\w2.drew.cell? ⟨gs,1,none⟩=some (.int .i64 (y:Nat))from hD.out);clear h8 h9 hH hd)
     |fail)
    all_goals
     have hI:=hO.out;have he:=hP.out;rw[<-HT.out]at he;have HE:=hid (show WsJ W0 l (.slice A3 (6*k+2+4) cap3) (.int .i64 ((k:Int)+1)) w2 (k+1) A3 cap3 from⟨h0,rfl,rfl,he,hI⟩);clear hI he;go_wp2;exact⟨hid ⟨_,_,_,HE.out⟩,by simp[intOf];omega⟩
  · have hQ:k=l.length:=by have:=hj.le;omega
    have ho:=hj.own;have hb:=hj.bel;have HO:=hid ho;have HB:=hid hb;clear hj ho hb;subst hQ;go_wp2;go_ret;have ho:=HO.out;rw[List.take_length]at ho;exact⟨_,rfl,ho.base (by have:=HZ.out;omega),hn.out.trans (HB.out.mono (by have:=HZ.out;omega))⟩
theorem wrSets (i:Inf) (sv dv:Value) (W:World) (hs:SetR W sv i.sets) (hl:i.sets.length<=100000) (hb:∀s∈i.sets,s.1<9223372036854775808/\s.2<9223372036854775808):
 Calls Tryz.prog 186 #[.agg (infC i sv dv)] W λe w'=>∃v,e= .returned v/\Ow w' W.heap.size 5 v (6*i.sets.length) (setB i.sets)/\Below W.heap.size W w':=
 wrSets0 (infC i sv dv) i.sets sv W rfl hs hl hb
end Go.Proofs.YtkpppjhbmnfmkaaGreatDoor
end

section
set_option maxHeartbeats 8000000
set_option maxRecDepth 100000
namespace Go.Own.Fr
open Lib (hid)
open Go Go.RowKit
def flgB (b1 b4 b8 b32 v1 v4 v8 v32:Bool) (f:Nat):Nat:=f|||((if v1&&b1 then 1 else 0)|||((if v4&&b4 then 4 else 0)|||((if v8&&b8 then 8 else 0)|||(if v32&&b32 then 32 else 0))))
section
variable (b1 b4 b8 b32 v1 v4 v8 v32:Bool) (f:Nat)
theorem flgB_lt (h:f<=255):flgB b1 b4 b8 b32 v1 v4 v8 v32 f<256:=by
 unfold flgB;refine Nat.or_lt_two_pow (n:=8) (by omega) (Nat.or_lt_two_pow ?_ (Nat.or_lt_two_pow ?_ (Nat.or_lt_two_pow ?_ ?_)))<;>split<;>omega
theorem flgB_1:flgB b1 b4 b8 b32 true v4 v8 v32 f=if b1 then flgB b1 b4 b8 b32 false v4 v8 v32 f|||1 else flgB b1 b4 b8 b32 false v4 v8 v32 f:=by
 unfold flgB;cases b1
 · simp
 · simp only[Bool.true_and,Bool.false_and,if_true,Bool.false_eq_true,if_false,Nat.zero_or]
   ac_rfl
theorem flgB_4:flgB b1 b4 b8 b32 v1 true v8 v32 f=if b4 then flgB b1 b4 b8 b32 v1 false v8 v32 f|||4 else flgB b1 b4 b8 b32 v1 false v8 v32 f:=by
 unfold flgB;cases b4
 · simp
 · simp only[Bool.true_and,Bool.false_and,if_true,Bool.false_eq_true,if_false,Nat.zero_or]
   ac_rfl
theorem flgB_8:flgB b1 b4 b8 b32 v1 v4 true v32 f=if b8 then flgB b1 b4 b8 b32 v1 v4 false v32 f|||8 else flgB b1 b4 b8 b32 v1 v4 false v32 f:=by
 unfold flgB;cases b8
 · simp
 · simp only[Bool.true_and,Bool.false_and,if_true,Bool.false_eq_true,if_false,Nat.zero_or]
   ac_rfl
theorem flgB_32:flgB b1 b4 b8 b32 v1 v4 v8 true f=if b32 then flgB b1 b4 b8 b32 v1 v4 v8 false f|||32 else flgB b1 b4 b8 b32 v1 v4 v8 false f:=by
 unfold flgB;cases b32
 · simp
 · simp only[Bool.true_and,Bool.false_and,if_true,Bool.false_eq_true,if_false,Nat.or_zero]
   ac_rfl
theorem flg_all (i:Inf):flg i=flgB (i.endd||i.ack) i.endHeads i.padded i.prio true true true true i.flags:=by
 unfold flg flgB;simp
end
def leftB (v1 v4 v8 v32:Bool) (k:Int):Bool:=(decide (k=1)&& !v1)||((decide (k=4)&& !v4)||((decide (k=8)&& !v8)||(decide (k=32)&& !v32)))
def flMap (b1 b4 b8 b32:Bool) (k:Int):Option Value:=if k=1 then some (.bool b1)else if k=4 then some (.bool b4)else if k=8 then some (.bool b8)else if k=32 then some (.bool b32)else none
theorem leftB_some {b1 b4 b8 b32:Bool} (k:Int):(flMap b1 b4 b8 b32 k).isSome=leftB false false false false k:=by
 unfold flMap leftB;by_cases h1:k=1
 · simp[h1]
 · by_cases h4:k=4
   · simp[h4]
   · by_cases h8:k=8
     · simp[h8]
     · by_cases h0:k=32<;>simp[h1,h4,h8,h0]
theorem leftB_cases {v1 v4 v8 v32:Bool} {k:Int} (h:leftB v1 v4 v8 v32 k=true):(k=1/\v1=false)\/(k=4/\v4=false)\/(k=8/\v8=false)\/(k=32/\v32=false):=by
 unfold leftB at h;simp only[Bool.or_eq_true,Bool.and_eq_true,decide_eq_true_eq,Bool.not_eq_true']at h;exact h
structure FlJ (P:Program) (kt:TypeId) (W:World) (mb r:Nat) (D:DataW Value) (b1 b4 b8 b32:Bool) (f:Nat) (t:Value) (wr:World) (left:Lit->Bool) (cnt:Nat) (v1 v4 v8 v32:Bool):Prop where
 rng:wr.ranges P kt Im.Rh mb r 4 D left cnt
 lf:∀k:Int,left (Im.il k)=leftB v1 v4 v8 v32 k
 val:t= .int .i64 (flgB b1 b4 b8 b32 v1 v4 v8 v32 f:Nat)
 bel:Below W.heap.size W wr
def FlR (P:Program) (kt:TypeId) (W:World) (mb r:Nat) (D:DataW Value) (b1 b4 b8 b32:Bool) (f:Nat) (t:Value) (wr:World):Prop:=∃left cnt v1 v4 v8 v32,FlJ P kt W mb r D b1 b4 b8 b32 f t wr left cnt v1 v4 v8 v32
theorem left_strike {left:Lit->Bool} {x:Int} (k:Int):(left (Im.il k)&& !(Im.il k).sameKey (Im.il x))=(left (Im.il k)&& !decide (k=x)):=by
 have:(Im.il k).sameKey (Im.il x)=decide (k=x):=by
  simp[Im.il,Lit.sameKey]
 rw[this]
theorem flD {D:DataW Value} {b1 b4 b8 b32:Bool} (hD:∀k:Int,Maps.has D (Im.il k)=(if k=32 then some (Value.bool b32)else if k=8 then some (Value.bool b8)else if k=4 then some (Value.bool b4)else if k=1 then some (Value.bool b1)else none).isSome/\
 ∀(z:DataW Value) (v:Value),(if k=32 then some (Value.bool b32)else if k=8 then some (Value.bool b8)else if k=4 then some (Value.bool b4)else if k=1 then some (Value.bool b1)else none)=some v->D.atKey (Im.il k) z= .held v):
 ∀k:Int,Maps.has D (Im.il k)=leftB false false false false k/\∀(z:DataW Value) (v:Value),flMap b1 b4 b8 b32 k=some v->D.atKey (Im.il k) z= .held v:=λk=>by
 have e:(if k=32 then some (Value.bool b32)else if k=8 then some (Value.bool b8)else if k=4 then some (Value.bool b4)else if k=1 then some (Value.bool b1)else none)=flMap b1 b4 b8 b32 k:=by
  unfold flMap;by_cases h1:k=1
  · simp[h1]
  · by_cases h4:k=4
    · simp[h4]
    · by_cases h8:k=8
      · simp[h8]
      · by_cases h0:k=32<;>simp[h1,h4,h8,h0]
 have h:=hD k;rw[e]at h;rw[<-leftB_some (b1:=b1) (b4:=b4) (b8:=b8) (b32:=b32) k];exact h
end Go.Own.Fr
namespace Go.Proofs.YtkpppjhbmnfmkaaGreatDoor
open Lib (hid)
open Go.RowKit Go.Own Go.Own.Fr Go.Own.Im
theorem kInt:Maps.Keyed Tryz.prog 3:=Maps.int_keyed Tryz.underlying3
theorem flags_any (i:Inf) (sv dv:Value) (W:World) (hf:i.flags<=255):
 Calls Tryz.prog 103 #[.agg (infC i sv dv)] W λe w'=>e= .returned (.int .i64 (flg i:Nat))/\Below W.heap.size W w':=by
 have HX:=hid (Blk.new W 91 (infC i sv dv));have H8:=hid ((Below.refl W.heap.size W).alloc (Nat.le_refl _) (.cells (infC i sv dv) 91));have HQ:=hid (flg_all i);have HF:=hid hf;clear hf;obtain⟨fl,hV⟩:∃x,i.flags=x:=⟨_,rfl⟩;obtain⟨b1e,hY⟩:∃x,i.endd=x:=⟨_,rfl⟩;obtain⟨b1a,hZ⟩:∃x,i.ack=x:=⟨_,rfl⟩;obtain⟨b4,h4⟩:∃x,i.endHeads=x:=⟨_,rfl⟩;obtain⟨b8,h8⟩:∃x,i.padded=x:=⟨_,rfl⟩;obtain⟨b32,hw⟩:∃x,i.prio=x:=⟨_,rfl⟩;have hK:=hid (λW' (h:Blk W' W.heap.size 91 (infC i sv dv))=>(show W'.cell? ⟨W.heap.size,1,none⟩=some (.int .i64 (fl:Nat))/\W'.cell? ⟨W.heap.size,3,none⟩=some (.bool b1e)/\W'.cell? ⟨W.heap.size,4,none⟩=some (.bool b4)/\W'.cell? ⟨W.heap.size,5,none⟩=some (.bool b1a)/\W'.cell? ⟨W.heap.size,6,none⟩=some (.bool b8)/\W'.cell? ⟨W.heap.size,7,none⟩=some (.bool b32)from
  ⟨by rw[<-hV];exact h.cell 1,by rw[<-hY];exact h.cell 3,by rw[<-h4];exact h.cell 4,by rw[<-hZ];exact h.cell 5,by rw[<-h8];exact h.cell 6,by rw[<-hw];exact h.cell 7⟩))
 rw[hV]at HF;rw[hV,hY,hZ,h4,h8,hw]at HQ;clear hV hY hZ h4 h8 hw;rw[HQ.out];clear HQ;have Ha:=λW=>run_mkMap (P:=Tryz.prog) 219 W;generalize h3:(b1e||b1a)=b1;cases hX:b1e
 · rw[hX]at h3 hK
   clear hX b1e;simp only[Bool.false_or]at h3;subst h3;go_enter Tryz.func103,Tryz.ntmps103;go_upto_region 1 with fail;generalize infC i sv dv=cs at*
   have HZ:=hid (show(W.alloc (.cells cs 91)).heap.size=W.heap.size+1 by simp);generalize W.alloc (.cells cs 91)=W0 at*
   have he:=hid (λW' (hW:Below W0.heap.size W0 W')=>hK.out W' (HX.out.below hW HX.out.lt));obtain⟨c1,c3,c4,c5,c6,c7⟩:=he.out W0 (Below.refl _ _);have H7:=HX.out.lt;have hL:=hid (HM.made Tryz.prog 3 W0);have hG:=hid ((Below.refl W0.heap.size W0).alloc (Nat.le_refl _) (.map #[] 0));go_wp2_with (first
    |(with_reducible refine wpList_put _ rfl (.tmp 8) (.const (.int .i64 1)) (.tmp 14) 219 (.inl rfl) Tryz.underlying219 Tryz.underlying3 W0.heap.size 0 _ rfl hL.out ?_ 1 ?_ rfl (.bool _) rfl ?_
      · simp only[maxLen];omega
      · decide
      intro w1 hm hg;have hM:=hid hm;have h3:=hG.out.grown hg hG.out.size (λj e=>by injection e with e;omega);have hN:=hid h3;clear c1 c3 c4 c5 c6 c7;obtain⟨c1,c3,c4,c5,c6,c7⟩:=he.out w1 h3;clear hm hg hL h3)
    |(with_reducible refine wpList_put _ rfl (.tmp 8) (.const (.int .i64 4)) (.tmp 16) 219 (.inl rfl) Tryz.underlying219 Tryz.underlying3 W0.heap.size 1 _ rfl hM.out ?_ 4 ?_ rfl (.bool _) rfl ?_
      · simp only[maxLen];omega
      · decide
      intro w2 hm hg;have hO:=hid hm;have h3:=hN.out.grown hg hN.out.size (λj e=>by injection e with e;omega);have hP:=hid h3;clear c1 c3 c4 c5 c6 c7;obtain⟨c1,c3,c4,c5,c6,c7⟩:=he.out w2 h3;clear hm hg hM h3)
    |(with_reducible refine wpList_put _ rfl (.tmp 8) (.const (.int .i64 8)) (.tmp 18) 219 (.inl rfl) Tryz.underlying219 Tryz.underlying3 W0.heap.size 2 _ rfl hO.out ?_ 8 ?_ rfl (.bool _) rfl ?_
      · simp only[maxLen];omega
      · decide
      intro w3 hm hg;have hQ:=hid hm;have h3:=hP.out.grown hg hP.out.size (λj e=>by injection e with e;omega);have hR:=hid h3;clear c1 c3 c4 c5 c6 c7;obtain⟨c1,c3,c4,c5,c6,c7⟩:=he.out w3 h3;clear hm hg hO h3)
    |(with_reducible refine wpList_put _ rfl (.tmp 8) (.const (.int .i64 32)) (.tmp 20) 219 (.inl rfl) Tryz.underlying219 Tryz.underlying3 W0.heap.size 3 _ rfl hQ.out ?_ 32 ?_ rfl (.bool _) rfl ?_
      · simp only[maxLen];omega
      · decide
      intro w4 hm hg;have h3:=hR.out.grown hg hR.out.size (λj e=>by injection e with e;omega);have hH:=hid h3;obtain⟨D,hs,hI,hD⟩:=hm;clear c1 c3 c4 c5 c6 c7 hg hQ h3)
    |(at_range;refine wpList_range_own _ rfl _ 219 rfl 3 4 kInt Tryz.underlying219 Rh W0.heap.size 4 D rfl hs ?_;intro w0 hu hS H0)
    |fail)
   have hT:=flD hD;have HD:=hid hT;have H1:=hid hu;have hU:=hid (hH.out.grown hS hH.out.size (λj e=>by cases e));have H2:=hid (show W0.heap.size<=w4.heap.size from hH.out.size);have hJ:fl<=255:=HF.out;have H3:=hid (show Below W.heap.size W W0 from H8.out);have H4:=hid (show W.heap.size<=W0.heap.size by have:=HZ.out;omega);have c1:=(he.out w0 hU.out).1;clear hD hT hI hs hu hS H0 hG he hK HX;go_wp2_with fail;go_loopw [3] (λt wr=>Hid (FlR Tryz.prog 3 W0 W0.heap.size w4.heap.size D b1a b4 b8 b32 fl t wr)) (λ_ wr=>wr.rangeLeft W0.heap.size w4.heap.size)
   case atStart=>
    exact hid ⟨_,_,false,false,false,false,H1.out,λk=>(HD.out k).1,by simp[flgB],hU.out⟩
   case round=>
    obtain⟨left,cnt,v1,v4,v8,v32,hj⟩:=hrel.out;clear hrel;have hd:=hj.rng;obtain rfl:=hj.val;have HJ:=hid hj;clear hj;obtain⟨m,hm⟩:∃m,flgB b1a b4 b8 b32 v1 v4 v8 v32 fl=m:=⟨_,rfl⟩;have H5:m<256:=by rw[<-hm];exact flgB_lt _ _ _ _ _ _ _ _ _ hJ
    have e1:bits .or .i64 (m:Int) 1=((m|||1:Nat):Int):=or_nat m 1 (by omega) (by omega);have e4:bits .or .i64 (m:Int) 4=((m|||4:Nat):Int):=or_nat m 4 (by omega) (by omega);have e8:bits .or .i64 (m:Int) 8=((m|||8:Nat):Int):=or_nat m 8 (by omega) (by omega);have e32:bits .or .i64 (m:Int) 32=((m|||32:Nat):Int):=or_nat m 32 (by omega) (by omega);rw[hm];have hi:=hid hm;clear hm H5;go_wp2_with (first
     |(at_next;refine wpList_next_ranges _ rfl _ rfl 3 kInt Rh (Value.int .i64) id (λkey kl hk=>by obtain⟨x,hx,_⟩:=Maps.keyOf_int_inv Tryz.underlying3 hk;exact⟨x,hx⟩) (λv y _=>⟨v,rfl⟩) W0.heap.size w4.heap.size 4 _ _ _ rfl hd ?_ ?_)
     |fail)
    · intro H9 hA
      have hv:v1=true/\v4=true/\v8=true/\v32=true:=by
       have h1:=(HJ.out.lf 1).symm.trans (hA _);have h4:=(HJ.out.lf 4).symm.trans (hA _);have h8:=(HJ.out.lf 8).symm.trans (hA _);have hw:=(HJ.out.lf 32).symm.trans (hA _);simp[leftB]at h1 h4 h8 hw;exact⟨h1,h4,h8,hw⟩
      obtain⟨rfl,rfl,rfl,rfl⟩:=hv;clear hd e1 e4 e8 e32;go_wp2;go_ret;refine⟨congrArg (λz:Nat=>Ending.returned (.int .i64 (z:Int))) hi.out.symm,H3.out.trans (HJ.out.bel.mono H4.out)⟩
    · intro x c kl y yp w5 cnt' h6 hl hv hb h7 hn hh hC ho
      (try simp only[id]at ho hv)
      obtain⟨x',ex,rfl,_⟩:=Maps.keyOf_int_inv Tryz.underlying3 h6;cases ex;have hy:y= .held c:=by injection hv with hv;injection hv with hv;exact hv.symm
      have h9:=hh.size;have hq:Below W0.heap.size W0 w5:=HJ.out.bel.grown hh HJ.out.bel.size (λj e=>by injection e with e;have:=H2.out;omega);have HL:=hid hn;have hE:=hid hd;have h5:=hid h7;have hF:=hid hq;rcases leftB_cases ((HJ.out.lf x).symm.trans hl)with⟨rfl,rfl⟩|⟨rfl,rfl⟩|⟨rfl,rfl⟩|⟨rfl,rfl⟩
      · have hc:c= .bool b1a:=by
         have h2:=(HD.out 1).2 (.held c) (.bool b1a) rfl;have h:=(hb (.held c)).symm.trans h2;rw[hy]at h;injection h
        subst hc;have HN:=hid (λ(t:Value) (ht:t= .int .i64 (flgB b1a b4 b8 b32 true v4 v8 v32 fl:Nat))=>(show FlJ Tryz.prog 3 W0 W0.heap.size w4.heap.size D b1a b4 b8 b32 fl t w5 (λz=>left z&& !z.sameKey (.int .i64 1)) cnt' true v4 v8 v32 from
         ⟨h5.out,λk=>by
           have e:(Lit.int .i64 1)=il 1:=rfl;show(left (il k)&& !(il k).sameKey (.int .i64 1))=_;rw[e,left_strike,HJ.out.lf];unfold leftB;by_cases e:k=1<;>simp[e],ht,hF.out⟩))
        have HE:=hid (flgB_1 b1a b4 b8 b32 v4 v8 v32 fl);clear h6 hl hv hb h7 hn hh hC hy hq h9 hd;rcases Bool.eq_false_or_eq_true (b1a)with h0|h0
        all_goals
         (try rw[h0]at ho)
         have HB:=hid h0;clear h0;go_wp2;refine⟨hid ⟨_,_,_,_,_,_,HN.out _ ?_⟩,by rw[h5.out.left_eq,hE.out.left_eq];exact HL.out⟩;rw[HE.out,hi.out];first
          |exact absurd HB.out (by decide)
          |rw[if_pos HB.out]
          |rw[if_neg (λh=>Bool.false_ne_true (HB.out.symm.trans h))]
      · have hc:c= .bool b4:=by
         have h2:=(HD.out 4).2 (.held c) (.bool b4) rfl;have h:=(hb (.held c)).symm.trans h2;rw[hy]at h;injection h
        subst hc;have HN:=hid (λ(t:Value) (ht:t= .int .i64 (flgB b1a b4 b8 b32 v1 true v8 v32 fl:Nat))=>(show FlJ Tryz.prog 3 W0 W0.heap.size w4.heap.size D b1a b4 b8 b32 fl t w5 (λz=>left z&& !z.sameKey (.int .i64 4)) cnt' v1 true v8 v32 from
         ⟨h5.out,λk=>by
           have e:(Lit.int .i64 4)=il 4:=rfl;show(left (il k)&& !(il k).sameKey (.int .i64 4))=_;rw[e,left_strike,HJ.out.lf];unfold leftB;by_cases e:k=4<;>simp[e],ht,hF.out⟩))
        have HE:=hid (flgB_4 b1a b4 b8 b32 v1 v8 v32 fl);clear h6 hl hv hb h7 hn hh hC hy hq h9 hd;rcases Bool.eq_false_or_eq_true (b4)with h0|h0
        all_goals
         (try rw[h0]at ho)
         have HB:=hid h0;clear h0;go_wp2;refine⟨hid ⟨_,_,_,_,_,_,HN.out _ ?_⟩,by rw[h5.out.left_eq,hE.out.left_eq];exact HL.out⟩;rw[HE.out,hi.out];first
          |exact absurd HB.out (by decide)
          |rw[if_pos HB.out]
          |rw[if_neg (λh=>Bool.false_ne_true (HB.out.symm.trans h))]
      · have hc:c= .bool b8:=by
         have h2:=(HD.out 8).2 (.held c) (.bool b8) rfl;have h:=(hb (.held c)).symm.trans h2;rw[hy]at h;injection h
        subst hc;have HN:=hid (λ(t:Value) (ht:t= .int .i64 (flgB b1a b4 b8 b32 v1 v4 true v32 fl:Nat))=>(show FlJ Tryz.prog 3 W0 W0.heap.size w4.heap.size D b1a b4 b8 b32 fl t w5 (λz=>left z&& !z.sameKey (.int .i64 8)) cnt' v1 v4 true v32 from
         ⟨h5.out,λk=>by
           have e:(Lit.int .i64 8)=il 8:=rfl;show(left (il k)&& !(il k).sameKey (.int .i64 8))=_;rw[e,left_strike,HJ.out.lf];unfold leftB;by_cases e:k=8<;>simp[e],ht,hF.out⟩))
        have HE:=hid (flgB_8 b1a b4 b8 b32 v1 v4 v32 fl);clear h6 hl hv hb h7 hn hh hC hy hq h9 hd;rcases Bool.eq_false_or_eq_true (b8)with h0|h0
        all_goals
         (try rw[h0]at ho)
         have HB:=hid h0;clear h0;go_wp2;refine⟨hid ⟨_,_,_,_,_,_,HN.out _ ?_⟩,by rw[h5.out.left_eq,hE.out.left_eq];exact HL.out⟩;rw[HE.out,hi.out];first
          |exact absurd HB.out (by decide)
          |rw[if_pos HB.out]
          |rw[if_neg (λh=>Bool.false_ne_true (HB.out.symm.trans h))]
      · have hc:c= .bool b32:=by
         have h2:=(HD.out 32).2 (.held c) (.bool b32) rfl;have h:=(hb (.held c)).symm.trans h2;rw[hy]at h;injection h
        subst hc;have HN:=hid (λ(t:Value) (ht:t= .int .i64 (flgB b1a b4 b8 b32 v1 v4 v8 true fl:Nat))=>(show FlJ Tryz.prog 3 W0 W0.heap.size w4.heap.size D b1a b4 b8 b32 fl t w5 (λz=>left z&& !z.sameKey (.int .i64 32)) cnt' v1 v4 v8 true from
         ⟨h5.out,λk=>by
           have e:(Lit.int .i64 32)=il 32:=rfl;show(left (il k)&& !(il k).sameKey (.int .i64 32))=_;rw[e,left_strike,HJ.out.lf];unfold leftB;by_cases e:k=32<;>simp[e],ht,hF.out⟩))
        have HE:=hid (flgB_32 b1a b4 b8 b32 v1 v4 v8 fl);clear h6 hl hv hb h7 hn hh hC hy hq h9 hd;rcases Bool.eq_false_or_eq_true (b32)with h0|h0
        all_goals
         (try rw[h0]at ho)
         have HB:=hid h0;clear h0;go_wp2;refine⟨hid ⟨_,_,_,_,_,_,HN.out _ ?_⟩,by rw[h5.out.left_eq,hE.out.left_eq];exact HL.out⟩;rw[HE.out,hi.out];first
          |exact absurd HB.out (by decide)
          |rw[if_pos HB.out]
          |rw[if_neg (λh=>Bool.false_ne_true (HB.out.symm.trans h))]
 · rw[hX]at h3 hK
   clear hX b1e;simp only[Bool.true_or]at h3;subst h3;go_enter Tryz.func103,Tryz.ntmps103;go_upto_region 1 with fail;generalize infC i sv dv=cs at*
   have HZ:=hid (show(W.alloc (.cells cs 91)).heap.size=W.heap.size+1 by simp);generalize W.alloc (.cells cs 91)=W0 at*
   have he:=hid (λW' (hW:Below W0.heap.size W0 W')=>hK.out W' (HX.out.below hW HX.out.lt));obtain⟨c1,c3,c4,c5,c6,c7⟩:=he.out W0 (Below.refl _ _);have H7:=HX.out.lt;have hL:=hid (HM.made Tryz.prog 3 W0);have hG:=hid ((Below.refl W0.heap.size W0).alloc (Nat.le_refl _) (.map #[] 0));go_wp2_with (first
    |(with_reducible refine wpList_put _ rfl (.tmp 8) (.const (.int .i64 1)) (.tmp 14) 219 (.inl rfl) Tryz.underlying219 Tryz.underlying3 W0.heap.size 0 _ rfl hL.out ?_ 1 ?_ rfl (.bool _) rfl ?_
      · simp only[maxLen];omega
      · decide
      intro w1 hm hg;have hM:=hid hm;have h3:=hG.out.grown hg hG.out.size (λj e=>by injection e with e;omega);have hN:=hid h3;clear c1 c3 c4 c5 c6 c7;obtain⟨c1,c3,c4,c5,c6,c7⟩:=he.out w1 h3;clear hm hg hL h3)
    |(with_reducible refine wpList_put _ rfl (.tmp 8) (.const (.int .i64 4)) (.tmp 16) 219 (.inl rfl) Tryz.underlying219 Tryz.underlying3 W0.heap.size 1 _ rfl hM.out ?_ 4 ?_ rfl (.bool _) rfl ?_
      · simp only[maxLen];omega
      · decide
      intro w2 hm hg;have hO:=hid hm;have h3:=hN.out.grown hg hN.out.size (λj e=>by injection e with e;omega);have hP:=hid h3;clear c1 c3 c4 c5 c6 c7;obtain⟨c1,c3,c4,c5,c6,c7⟩:=he.out w2 h3;clear hm hg hM h3)
    |(with_reducible refine wpList_put _ rfl (.tmp 8) (.const (.int .i64 8)) (.tmp 18) 219 (.inl rfl) Tryz.underlying219 Tryz.underlying3 W0.heap.size 2 _ rfl hO.out ?_ 8 ?_ rfl (.bool _) rfl ?_
      · simp only[maxLen];omega
      · decide
      intro w3 hm hg;have hQ:=hid hm;have h3:=hP.out.grown hg hP.out.size (λj e=>by injection e with e;omega);have hR:=hid h3;clear c1 c3 c4 c5 c6 c7;obtain⟨c1,c3,c4,c5,c6,c7⟩:=he.out w3 h3;clear hm hg hO h3)
    |(with_reducible refine wpList_put _ rfl (.tmp 8) (.const (.int .i64 32)) (.tmp 20) 219 (.inl rfl) Tryz.underlying219 Tryz.underlying3 W0.heap.size 3 _ rfl hQ.out ?_ 32 ?_ rfl (.bool _) rfl ?_
      · simp only[maxLen];omega
      · decide
      intro w4 hm hg;have h3:=hR.out.grown hg hR.out.size (λj e=>by injection e with e;omega);have hH:=hid h3;obtain⟨D,hs,hI,hD⟩:=hm;clear c1 c3 c4 c5 c6 c7 hg hQ h3)
    |(at_range;refine wpList_range_own _ rfl _ 219 rfl 3 4 kInt Tryz.underlying219 Rh W0.heap.size 4 D rfl hs ?_;intro w0 hu hS H0)
    |fail)
   have hT:=flD hD;have HD:=hid hT;have H1:=hid hu;have hU:=hid (hH.out.grown hS hH.out.size (λj e=>by cases e));have H2:=hid (show W0.heap.size<=w4.heap.size from hH.out.size);have hJ:fl<=255:=HF.out;have H3:=hid (show Below W.heap.size W W0 from H8.out);have H4:=hid (show W.heap.size<=W0.heap.size by have:=HZ.out;omega);have c1:=(he.out w0 hU.out).1;clear hD hT hI hs hu hS H0 hG he hK HX;go_wp2_with fail;go_loopw [3] (λt wr=>Hid (FlR Tryz.prog 3 W0 W0.heap.size w4.heap.size D true b4 b8 b32 fl t wr)) (λ_ wr=>wr.rangeLeft W0.heap.size w4.heap.size)
   case atStart=>
    exact hid ⟨_,_,false,false,false,false,H1.out,λk=>(HD.out k).1,by simp[flgB],hU.out⟩
   case round=>
    obtain⟨left,cnt,v1,v4,v8,v32,hj⟩:=hrel.out;clear hrel;have hd:=hj.rng;obtain rfl:=hj.val;have HJ:=hid hj;clear hj;obtain⟨m,hm⟩:∃m,flgB true b4 b8 b32 v1 v4 v8 v32 fl=m:=⟨_,rfl⟩;have H5:m<256:=by rw[<-hm];exact flgB_lt _ _ _ _ _ _ _ _ _ hJ
    have e1:bits .or .i64 (m:Int) 1=((m|||1:Nat):Int):=or_nat m 1 (by omega) (by omega);have e4:bits .or .i64 (m:Int) 4=((m|||4:Nat):Int):=or_nat m 4 (by omega) (by omega);have e8:bits .or .i64 (m:Int) 8=((m|||8:Nat):Int):=or_nat m 8 (by omega) (by omega);have e32:bits .or .i64 (m:Int) 32=((m|||32:Nat):Int):=or_nat m 32 (by omega) (by omega);rw[hm];have hi:=hid hm;clear hm H5;go_wp2_with (first
     |(at_next;refine wpList_next_ranges _ rfl _ rfl 3 kInt Rh (Value.int .i64) id (λkey kl hk=>by obtain⟨x,hx,_⟩:=Maps.keyOf_int_inv Tryz.underlying3 hk;exact⟨x,hx⟩) (λv y _=>⟨v,rfl⟩) W0.heap.size w4.heap.size 4 _ _ _ rfl hd ?_ ?_)
     |fail)
    · intro H9 hA
      have hv:v1=true/\v4=true/\v8=true/\v32=true:=by
       have h1:=(HJ.out.lf 1).symm.trans (hA _);have h4:=(HJ.out.lf 4).symm.trans (hA _);have h8:=(HJ.out.lf 8).symm.trans (hA _);have hw:=(HJ.out.lf 32).symm.trans (hA _);simp[leftB]at h1 h4 h8 hw;exact⟨h1,h4,h8,hw⟩
      obtain⟨rfl,rfl,rfl,rfl⟩:=hv;clear hd e1 e4 e8 e32;go_wp2;go_ret;refine⟨congrArg (λz:Nat=>Ending.returned (.int .i64 (z:Int))) hi.out.symm,H3.out.trans (HJ.out.bel.mono H4.out)⟩
    · intro x c kl y yp w5 cnt' h6 hl hv hb h7 hn hh hC ho
      (try simp only[id]at ho hv)
      obtain⟨x',ex,rfl,_⟩:=Maps.keyOf_int_inv Tryz.underlying3 h6;cases ex;have hy:y= .held c:=by injection hv with hv;injection hv with hv;exact hv.symm
      have h9:=hh.size;have hq:Below W0.heap.size W0 w5:=HJ.out.bel.grown hh HJ.out.bel.size (λj e=>by injection e with e;have:=H2.out;omega);have HL:=hid hn;have hE:=hid hd;have h5:=hid h7;have hF:=hid hq;rcases leftB_cases ((HJ.out.lf x).symm.trans hl)with⟨rfl,rfl⟩|⟨rfl,rfl⟩|⟨rfl,rfl⟩|⟨rfl,rfl⟩
      · have hc:c= .bool true:=by
         have h2:=(HD.out 1).2 (.held c) (.bool true) rfl;have h:=(hb (.held c)).symm.trans h2;rw[hy]at h;injection h
        subst hc;have HN:=hid (λ(t:Value) (ht:t= .int .i64 (flgB true b4 b8 b32 true v4 v8 v32 fl:Nat))=>(show FlJ Tryz.prog 3 W0 W0.heap.size w4.heap.size D true b4 b8 b32 fl t w5 (λz=>left z&& !z.sameKey (.int .i64 1)) cnt' true v4 v8 v32 from
         ⟨h5.out,λk=>by
           have e:(Lit.int .i64 1)=il 1:=rfl;show(left (il k)&& !(il k).sameKey (.int .i64 1))=_;rw[e,left_strike,HJ.out.lf];unfold leftB;by_cases e:k=1<;>simp[e],ht,hF.out⟩))
        have HE:=hid (flgB_1 true b4 b8 b32 v4 v8 v32 fl);clear h6 hl hv hb h7 hn hh hC hy hq h9 hd;rcases Bool.eq_false_or_eq_true (true)with h0|h0
        all_goals
         (try rw[h0]at ho)
         have HB:=hid h0;clear h0;go_wp2;refine⟨hid ⟨_,_,_,_,_,_,HN.out _ ?_⟩,by rw[h5.out.left_eq,hE.out.left_eq];exact HL.out⟩;rw[HE.out,hi.out];first
          |exact absurd HB.out (by decide)
          |rw[if_pos HB.out]
          |rw[if_neg (λh=>Bool.false_ne_true (HB.out.symm.trans h))]
      · have hc:c= .bool b4:=by
         have h2:=(HD.out 4).2 (.held c) (.bool b4) rfl;have h:=(hb (.held c)).symm.trans h2;rw[hy]at h;injection h
        subst hc;have HN:=hid (λ(t:Value) (ht:t= .int .i64 (flgB true b4 b8 b32 v1 true v8 v32 fl:Nat))=>(show FlJ Tryz.prog 3 W0 W0.heap.size w4.heap.size D true b4 b8 b32 fl t w5 (λz=>left z&& !z.sameKey (.int .i64 4)) cnt' v1 true v8 v32 from
         ⟨h5.out,λk=>by
           have e:(Lit.int .i64 4)=il 4:=rfl;show(left (il k)&& !(il k).sameKey (.int .i64 4))=_;rw[e,left_strike,HJ.out.lf];unfold leftB;by_cases e:k=4<;>simp[e],ht,hF.out⟩))
        have HE:=hid (flgB_4 true b4 b8 b32 v1 v8 v32 fl);clear h6 hl hv hb h7 hn hh hC hy hq h9 hd;rcases Bool.eq_false_or_eq_true (b4)with h0|h0
        all_goals
         (try rw[h0]at ho)
         have HB:=hid h0;clear h0;go_wp2;refine⟨hid ⟨_,_,_,_,_,_,HN.out _ ?_⟩,by rw[h5.out.left_eq,hE.out.left_eq];exact HL.out⟩;rw[HE.out,hi.out];first
          |exact absurd HB.out (by decide)
          |rw[if_pos HB.out]
          |rw[if_neg (λh=>Bool.false_ne_true (HB.out.symm.trans h))]
      · have hc:c= .bool b8:=by
         have h2:=(HD.out 8).2 (.held c) (.bool b8) rfl;have h:=(hb (.held c)).symm.trans h2;rw[hy]at h;injection h
        subst hc;have HN:=hid (λ(t:Value) (ht:t= .int .i64 (flgB true b4 b8 b32 v1 v4 true v32 fl:Nat))=>(show FlJ Tryz.prog 3 W0 W0.heap.size w4.heap.size D true b4 b8 b32 fl t w5 (λz=>left z&& !z.sameKey (.int .i64 8)) cnt' v1 v4 true v32 from
         ⟨h5.out,λk=>by
           have e:(Lit.int .i64 8)=il 8:=rfl;show(left (il k)&& !(il k).sameKey (.int .i64 8))=_;rw[e,left_strike,HJ.out.lf];unfold leftB;by_cases e:k=8<;>simp[e],ht,hF.out⟩))
        have HE:=hid (flgB_8 true b4 b8 b32 v1 v4 v32 fl);clear h6 hl hv hb h7 hn hh hC hy hq h9 hd;rcases Bool.eq_false_or_eq_true (b8)with h0|h0
        all_goals
         (try rw[h0]at ho)
         have HB:=hid h0;clear h0;go_wp2;refine⟨hid ⟨_,_,_,_,_,_,HN.out _ ?_⟩,by rw[h5.out.left_eq,hE.out.left_eq];exact HL.out⟩;rw[HE.out,hi.out];first
          |exact absurd HB.out (by decide)
          |rw[if_pos HB.out]
          |rw[if_neg (λh=>Bool.false_ne_true (HB.out.symm.trans h))]
      · have hc:c= .bool b32:=by
         have h2:=(HD.out 32).2 (.held c) (.bool b32) rfl;have h:=(hb (.held c)).symm.trans h2;rw[hy]at h;injection h
        subst hc;have HN:=hid (λ(t:Value) (ht:t= .int .i64 (flgB true b4 b8 b32 v1 v4 v8 true fl:Nat))=>(show FlJ Tryz.prog 3 W0 W0.heap.size w4.heap.size D true b4 b8 b32 fl t w5 (λz=>left z&& !z.sameKey (.int .i64 32)) cnt' v1 v4 v8 true from
         ⟨h5.out,λk=>by
           have e:(Lit.int .i64 32)=il 32:=rfl;show(left (il k)&& !(il k).sameKey (.int .i64 32))=_;rw[e,left_strike,HJ.out.lf];unfold leftB;by_cases e:k=32<;>simp[e],ht,hF.out⟩))
        have HE:=hid (flgB_32 true b4 b8 b32 v1 v4 v8 fl);clear h6 hl hv hb h7 hn hh hC hy hq h9 hd;rcases Bool.eq_false_or_eq_true (b32)with h0|h0
        all_goals
         (try rw[h0]at ho)
         have HB:=hid h0;clear h0;go_wp2;refine⟨hid ⟨_,_,_,_,_,_,HN.out _ ?_⟩,by rw[h5.out.left_eq,hE.out.left_eq];exact HL.out⟩;rw[HE.out,hi.out];first
          |exact absurd HB.out (by decide)
          |rw[if_pos HB.out]
          |rw[if_neg (λh=>Bool.false_ne_true (HB.out.symm.trans h))]
end Go.Proofs.YtkpppjhbmnfmkaaGreatDoor
end

section
set_option maxHeartbeats 8000000
set_option maxRecDepth 100000
namespace Go.Proofs.YtkpppjhbmnfmkaaGreatDoor
open Lib (hid)
open Go.RowKit Go.Own Go.Own.Fr Go.Own.Im
theorem same_any (i:Inf) (sv sv2:Value) (A A2:Option Addr) (n c c2 B B2:Nat) (W:World) (hs:SetR W sv i.sets) (hQ:SetR W sv2 i.sets) (hr:Rd W B A n i.data) (hG:Rd W B2 A2 n i.data) (hB:B<=W.heap.size) (hR:B2<=W.heap.size) (hl:i.sets.length<=1000000):
 Calls Tryz.prog 105 #[.agg (infC i sv (.slice A n c)),.agg (infC i sv2 (.slice A2 n c2))] W λe w'=>e= .returned (.bool true)/\Below W.heap.size W w':=by
 obtain⟨S1,d1,rfl,hS,hh⟩:=hs;obtain⟨S2,d2,rfl,hT,hi⟩:=hQ;obtain⟨n0,h0⟩:∃x,i.typ=x:=⟨_,rfl⟩;obtain⟨n1,h1⟩:∃x,i.flags=x:=⟨_,rfl⟩;obtain⟨n2,h2⟩:∃x,i.stream=x:=⟨_,rfl⟩;obtain⟨n3,h3⟩:∃x,i.endd=x:=⟨_,rfl⟩;obtain⟨n4,h4⟩:∃x,i.endHeads=x:=⟨_,rfl⟩;obtain⟨n5,h5⟩:∃x,i.ack=x:=⟨_,rfl⟩;obtain⟨n6,h6⟩:∃x,i.padded=x:=⟨_,rfl⟩;obtain⟨n7,h7⟩:∃x,i.prio=x:=⟨_,rfl⟩;obtain⟨n8,h8⟩:∃x,i.alone=x:=⟨_,rfl⟩;obtain⟨n9,h9⟩:∃x,i.pad=x:=⟨_,rfl⟩;obtain⟨n10,hH⟩:∃x,i.dep=x:=⟨_,rfl⟩;obtain⟨n11,hI⟩:∃x,i.weight=x:=⟨_,rfl⟩;obtain⟨n12,hJ⟩:∃x,i.code=x:=⟨_,rfl⟩;obtain⟨n13,hK⟩:∃x,i.last=x:=⟨_,rfl⟩;obtain⟨n14,hL⟩:∃x,i.inc=x:=⟨_,rfl⟩;obtain⟨n15,hM⟩:∃x,i.promise=x:=⟨_,rfl⟩;have hq:=hid (λ(W':World) (b:Nat) (u v:Value) (h:Blk W' b 91 (infC i u v))=>(show(W'.cell? ⟨b,0,none⟩=some (.int .i64 (n0:Nat))/\W'.cell? ⟨b,1,none⟩=some (.int .i64 (n1:Nat))/\W'.cell? ⟨b,2,none⟩=some (.int .i64 (n2:Nat))/\W'.cell? ⟨b,3,none⟩=some (.bool n3)/\W'.cell? ⟨b,4,none⟩=some (.bool n4)/\W'.cell? ⟨b,5,none⟩=some (.bool n5)/\W'.cell? ⟨b,6,none⟩=some (.bool n6)/\W'.cell? ⟨b,7,none⟩=some (.bool n7)/\W'.cell? ⟨b,8,none⟩=some (.bool n8)/\W'.cell? ⟨b,9,none⟩=some (.int .i64 (n9:Nat))/\W'.cell? ⟨b,10,none⟩=some (.int .i64 (n10:Nat))/\W'.cell? ⟨b,11,none⟩=some (.int .i64 (n11:Nat))/\W'.cell? ⟨b,12,none⟩=some (.int .i64 (n12:Nat))/\W'.cell? ⟨b,13,none⟩=some (.int .i64 (n13:Nat))/\W'.cell? ⟨b,14,none⟩=some (.int .i64 (n14:Nat))/\W'.cell? ⟨b,15,none⟩=some (.int .i64 (n15:Nat)))/\W'.cell? ⟨b,16,none⟩=some u/\W'.cell? ⟨b,17,none⟩=some v from
  ⟨⟨by rw[<-h0];exact h.cell 0,by rw[<-h1];exact h.cell 1,by rw[<-h2];exact h.cell 2,by rw[<-h3];exact h.cell 3,by rw[<-h4];exact h.cell 4,by rw[<-h5];exact h.cell 5,by rw[<-h6];exact h.cell 6,by rw[<-h7];exact h.cell 7,by rw[<-h8];exact h.cell 8,by rw[<-h9];exact h.cell 9,by rw[<-hH];exact h.cell 10,by rw[<-hI];exact h.cell 11,by rw[<-hJ];exact h.cell 12,by rw[<-hK];exact h.cell 13,by rw[<-hL];exact h.cell 14,by rw[<-hM];exact h.cell 15⟩,h.cell 16,h.cell 17⟩))
 clear h0 h1 h2 h3 h4 h5 h6 h7 h8 h9 hH hI hJ hK hL hM;have hm:=hid ((Blk.new W 91 (infC i (.slice S1 i.sets.length d1) (.slice A n c))).alloc (.cells (infC i (.slice S2 i.sets.length d2) (.slice A2 n c2)) 91));have hn:=hid (show Blk ((W.alloc (.cells (infC i (.slice S1 i.sets.length d1) (.slice A n c)) 91)).alloc (.cells (infC i (.slice S2 i.sets.length d2) (.slice A2 n c2)) 91)) (W.heap.size+1) 91 (infC i (.slice S2 i.sets.length d2) (.slice A2 n c2))from by
  have h:=Blk.new (W.alloc (.cells (infC i (.slice S1 i.sets.length d1) (.slice A n c)) 91)) 91 (infC i (.slice S2 i.sets.length d2) (.slice A2 n c2));rw[show(W.alloc (.cells (infC i (.slice S1 i.sets.length d1) (.slice A n c)) 91)).heap.size=W.heap.size+1 by simp]at h;exact h)
 have hc:=(((Below.refl W.heap.size W).alloc (Nat.le_refl _) (.cells (infC i (.slice S1 i.sets.length d1) (.slice A n c)) 91)).alloc (by simp) (.cells (infC i (.slice S2 i.sets.length d2) (.slice A2 n c2)) 91));have hU:=hid hc;have ht:=hid (SetR.below (v:=.slice S1 i.sets.length d1) (l:=i.sets) ⟨S1,d1,rfl,hS,hh⟩ hc);have hu:=hid (SetR.below (v:=.slice S2 i.sets.length d2) (l:=i.sets) ⟨S2,d2,rfl,hT,hi⟩ hc);have hw:=(hr.more hB).below hc;have hA:=(hG.more hR).below hc;have he:=hid (λ(W':World) (h:Blk W' W.heap.size 91 (infC i (.slice S1 i.sets.length d1) (.slice A n c)))=>hq.out W' W.heap.size _ _ h);have hd:=hid (λ(W':World) (h:Blk W' (W.heap.size+1) 91 (infC i (.slice S2 i.sets.length d2) (.slice A2 n c2)))=>hq.out W' (W.heap.size+1) _ _ h);clear hh hi hc hr hG hq;generalize infC i (.slice S1 i.sets.length d1) (.slice A n c)=cs1 at*
 generalize infC i (.slice S2 i.sets.length d2) (.slice A2 n c2)=cs2 at*
 have HZ:=hid (show((W.alloc (.cells cs1 91)).alloc (.cells cs2 91)).heap.size=W.heap.size+2 by simp);obtain⟨l,hC⟩:∃l,i.sets=l:=⟨_,rfl⟩;obtain⟨dt,hN⟩:∃l,i.data=l:=⟨_,rfl⟩;rw[hC]at ht hu hl;rw[hC]at he hd;rw[hN]at hw hA;clear hC hN;go_enter Tryz.func105,Tryz.ntmps105;go_upto_region 1 with fail;generalize (W.alloc (.cells cs1 91)).alloc (.cells cs2 91)=W0 at*
 have hV:=run_str (P:=Tryz.prog) (c:=c) 22 9 5 Tryz.underlying22 Tryz.underlying5 Tryz.underlying9 hw;have hW:=run_str (P:=Tryz.prog) (c:=c2) 22 9 5 Tryz.underlying22 Tryz.underlying5 Tryz.underlying9 hA;obtain⟨_,a16,a17⟩:=he.out W0 hm.out;obtain⟨_,b16,b17⟩:=hd.out W0 hn.out;clear hw hA;have hY:((l.length:Int) != (l.length:Int))=false:=by simp
 go_wp2;go_loopw [26] (λt wr=>Hid (∃k:Nat,k<=l.length/\t= .int .i64 (k:Nat)/\Below W0.heap.size W0 wr)) (λt _=>l.length-(intOf t).toNat)
 case atStart=>exact hid ⟨0,Nat.zero_le _,rfl,Below.refl _ _⟩
 case round=>
  obtain⟨k,hk,rfl,hb⟩:=hrel.out;clear hrel hV hW;have hD:=hid hb;have ho:=hm.out.below hb hm.out.lt;have hf:=hn.out.below hb hn.out.lt;by_cases hO:k<l.length
  · obtain⟨ad,rfl,hZ,q0,q1⟩:=(ht.out.below hb).at_ hO
    obtain⟨ad2,rfl,hj,r0,r1⟩:=(hu.out.below hb).at_ hO;obtain⟨⟨x,y⟩,hP⟩:∃p,l.getD k (0,0)=p:=⟨_,rfl⟩;rw[hP]at q0 q1 r0 r1;simp only at q0 q1 r0 r1;obtain⟨_,a16,a17⟩:=he.out wr ho;obtain⟨_,b16,b17⟩:=hd.out wr hf;have hE:=hid hf;clear ho hf hb hP;go_upto_region 6 with fail;have HN:=hid (Blk.new wr 87 #[.int .i64 (x:Nat),.int .i64 (y:Nat)]);have r0':(wr.alloc (.cells #[.int .i64 (x:Nat),.int .i64 (y:Nat)] 87)).cell? (ad2.add (k*2))=_:=(World.cell?_alloc_lt wr _ (ad2.add (k*2)) (by rw[add_block];exact hj)).trans r0;have r1':(wr.alloc (.cells #[.int .i64 (x:Nat),.int .i64 (y:Nat)] 87)).cell? ⟨(ad2.add (k*2)).block,(ad2.add (k*2)).off+1,none⟩=_:=(World.cell?_alloc_lt wr _ ⟨(ad2.add (k*2)).block,(ad2.add (k*2)).off+1,none⟩ (by show(ad2.add (k*2)).block<_;rw[add_block];exact hj)).trans r1;have hF:=hid (hE.out.alloc (.cells #[.int .i64 (x:Nat),.int .i64 (y:Nat)] 87));have hX:=hid (hD.out.alloc hD.out.size (.cells #[.int .i64 (x:Nat),.int .i64 (y:Nat)] 87));clear q0 q1 r0 r1 a16 a17 b16 b17;generalize wr.alloc (.cells #[.int .i64 (x:Nat),.int .i64 (y:Nat)] 87)=W6 at*
    obtain⟨_,b16,b17⟩:=hd.out W6 hF.out;have z0:W6.cell? ⟨wr.heap.size,0,none⟩=some (.int .i64 (x:Nat)):=HN.out.cell 0;have z1:W6.cell? ⟨wr.heap.size,1,none⟩=some (.int .i64 (y:Nat)):=HN.out.cell 1;have H0:(0:Int)<=(k:Int):=by omega
    have H1:(k:Int)<(l.length:Int):=by omega
    go_quiet (fail);go_wp2;exact⟨hid ⟨k+1,by omega,by go_num,bdN hX.out _⟩,by simp[intOf];omega⟩
  · obtain⟨⟨a0,a1,a2,a3,a4,a5,a6,a7,a8,a9,a10,a11,a12,a13,a14,a15⟩,a16,a17⟩:=he.out wr ho
    obtain⟨⟨b0,b1,b2,b3,b4,b5,b6,b7,b8,b9,b10,b11,b12,b13,b14,b15⟩,b16,b17⟩:=hd.out wr hf;have H2:¬(k:Int)<(l.length:Int):=by omega
    clear ho hf hb hm hn ht hu he hd
    as_aux_lemma=>
     go_wp2;go_ret;exact⟨rfl,hU.out.trans (hD.out.mono (by have:=HZ.out;omega))⟩
end Go.Proofs.YtkpppjhbmnfmkaaGreatDoor
end
