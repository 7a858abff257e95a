/-
  
  
  
  
  
  
-/
import Derived.Test.YtkpppjhbmnfmkaaGreatDoorJag
import Derived.Test.YtkpppjhbmnfmkaaGreatDoorJaf
import Derived.Test.YtkpppjhbmnfmkaaGreatDoorJah
import Derived.Test.YtkpppjhbmnfmkaaGreatDoorJaa
import Derived.Test.YtkpppjhbmnfmkaaGreatDoorFq
import Derived.Test.YtkpppjhbmnfmkaaGreatDoorJab
set_option linter.unusedSimpArgs false
set_option linter.unusedVariables false
section
set_option maxHeartbeats 8000000
set_option maxRecDepth 100000
namespace Go.Proofs.YtkpppjhbmnfmkaaGreatDoor
open Lib (hid)
open Go.RowKit Go.Own Go.Own.Fr Go.Own.Im
attribute [local go_sem] Oper.semAt_some
theorem enter_sets:Enters Tryz.prog 185:=enters_of Tryz.func185 (by kernel_rfl) rfl
theorem open_more (t f s:Nat) (A:Option Addr) (n c B:Nat) (l:List UInt8) (W:World) (hr:Rd W B A n l) (hB:B<=W.heap.size) (hc:n<=c) (hn:n<=1000000) (ht:t<=255) (hf:f<=255) (hs:s<=2147483647) (hp:hasF t f 8=false)
 (hk:t≠2/\t≠5/\(t=1->hasF t f 32=false)):
 Calls Tryz.prog 104 #[.agg #[.int .i64 (t:Nat),.int .i64 (f:Nat),.int .i64 (s:Nat),.slice A n c]] W (OpPost W t f s l):=by
 by_cases h4:t=4
 · subst h4
   refine open_any 4 f s A n c B l W hr hB ht hf hs hp λW' g g3 g6 g8 hb hE hI hg=>?_;exact⟨_,#[],rfl,enter_sets,rdSets g (info0 4 f s) A n c W.heap.size l W' hI ((hr.more hB).below hb) hb.size hc hn rfl ⟨rfl,rfl⟩⟩
 · exact open_plain t f s A n c B l W hr hB hc (by omega) ht hf hs hp ⟨hk.1,h4,hk.2.1,hk.2.2⟩
theorem results_build (tmps:Array Value) (w:World) (g:Nat) (a b c d v:Value) (ht:tmps[2]?=some (.pointer (some ⟨g,0,none⟩))) (h3:tmps[3]?=some v) (hb:Blk w g 24 #[a,b,c,d]):
 (results Tryz.f66 tmps).run Tryz.prog w= .ok (.tuple #[.agg #[a,b,c,d],v]) w:=by
 have c0:w.cell? ⟨g,0,none⟩=some a:=hb.cell 0;have c1:w.cell? ⟨g,1,none⟩=some b:=hb.cell 1;have c2:w.cell? ⟨g,2,none⟩=some c:=hb.cell 2;have c3:w.cell? ⟨g,3,none⟩=some d:=hb.cell 3;simp[results,Tryz.results66,go_sem,ht,h3,c0,c1,c2,c3]
theorem load_row {i:Inf} {g:Nat} {A A2:Option Addr} {n n2 c c2:Nat} {w:World} (h:Blk w g 91 (infC i (.slice A n c) (.slice A2 n2 c2))):(Instr.loadAt 91 (.pointer (some ⟨g,0,none⟩))).run Tryz.prog w= .ok (.agg (infC i (.slice A n c) (.slice A2 n2 c2))) w:=
 run_loadAt_row w g _ _ _ h _ Tryz.underlying91 rfl infSize
def BuPost (W:World) (i:Inf) (e:Ending) (w':World):Prop:=
 ∃A c',e= .returned (.tuple #[.agg #[.int .i64 (i.typ:Nat),.int .i64 (flg i:Nat),.int .i64 (i.stream:Nat),.slice A (pay i).length c'],.nilIface])/\Ow w' W.heap.size 5 (.slice A (pay i).length c') (pay i).length (pay i)/\Below W.heap.size W w'
def WrPost (W:World) (p:List UInt8) (e:Ending) (w':World):Prop:=∃A m c,e= .returned (.slice A m c)/\Rd w' w'.heap.size A m p/\Below W.heap.size W w'
theorem build_any (i:Inf) (S:Option Addr) (d:Nat) (A:Option Addr) (n c B:Nat) (K:Nat) (W:World) (hf:FitI i) (hs:SetR W (.slice S i.sets.length d) i.sets) (hr:Rd W B A n i.data) (hB:B<=W.heap.size)
 (hp:i.padded=false) (hk:wrV i.typ= .func (.func K) #[] #[]) (hE:Enters Tryz.prog K)
 (hw:∀W',Below W.heap.size W W'->Calls Tryz.prog K #[.agg (infC i (.slice S i.sets.length d) (.slice A n c))] W' (WrPost W' (pay i))) (He:(pay i).length<=1000000)
 (ho:opn i.typ (flg i) i.stream (pay i)= .ok i) (Hg:flg i<=255) (Hh:hasF i.typ (flg i) 8=false) (Hi:i.typ≠2/\i.typ≠5/\(i.typ=1->hasF i.typ (flg i) 32=false)):
 Calls Tryz.prog 66 #[.agg (infC i (.slice S i.sets.length d) (.slice A n c))] W (BuPost W i):=by
 have hn:=hr.1;subst hn;have hE:∀args w,(callFunc K args).run Tryz.prog w= .ok (.enter K args) w:=hE;have Hj:=(Blk.new W 91 (infC i (.slice S i.sets.length d) (.slice A i.data.length c))).alloc (.cells #[.int .i64 0,.int .i64 0,.int .i64 0,.slice none 0 0] 24);have Hl:Blk ((W.alloc (.cells (infC i (.slice S i.sets.length d) (.slice A i.data.length c)) 91)).alloc (.cells #[.int .i64 0,.int .i64 0,.int .i64 0,.slice none 0 0] 24)) (W.heap.size+1) 24 #[.int .i64 0,.int .i64 0,.int .i64 0,.slice none 0 0]:=by
  have h:=Blk.new (W.alloc (.cells (infC i (.slice S i.sets.length d) (.slice A i.data.length c)) 91)) 24 #[.int .i64 0,.int .i64 0,.int .i64 0,.slice none 0 0];rw[show(W.alloc (.cells (infC i (.slice S i.sets.length d) (.slice A i.data.length c)) 91)).heap.size=W.heap.size+1 by simp]at h;exact h
 have Hm:Below W.heap.size W ((W.alloc (.cells (infC i (.slice S i.sets.length d) (.slice A i.data.length c)) 91)).alloc (.cells #[.int .i64 0,.int .i64 0,.int .i64 0,.slice none 0 0] 24)):=((Below.refl _ _).alloc (Nat.le_refl _) _).alloc (by simp) _;have hP:=hid Hj;have hW:=hid Hl;have hQ:=hid Hm;have Hn:=hid hs;have HR:=hid (hr.more hB);have HF:=hid hf;have HW:=hid hw;have HP:=hid (show hasF i.typ (flg i) 8=false/\(i.typ≠2/\i.typ≠5/\(i.typ=1->hasF i.typ (flg i) 32=false))/\flg i<=255/\opn i.typ (flg i) i.stream (pay i)= .ok i/\(pay i).length<=1000000/\i.padded=false/\wrV i.typ= .func (.func K) #[] #[]from⟨Hh,Hi,Hg,ho,He,hp,hk⟩);clear Hj Hl Hm hs hr hf hw Hh Hi Hg ho He hp hk hB;go_enter Tryz.func66,Tryz.ntmps66;go_upto_region 1 with fail;generalize (W.alloc (.cells (infC i (.slice S i.sets.length d) (.slice A i.data.length c)) 91)).alloc (.cells #[.int .i64 0,.int .i64 0,.int .i64 0,.slice none 0 0] 24)=W1 at*
 go_wp2_with (first
  |(refine wpList_rowGet _ rfl (.tmp 1) 91 rfl W.heap.size 91 _ rfl hP.out _ Tryz.underlying91 rfl infSize ?_)
  |fail)
 refine(fit_any i (.slice S i.sets.length d) (.slice A i.data.length c) W1 HF.out (Hn.out.below hQ.out)).mono ?_;rintro e W2 ⟨rfl,hb⟩;have hX:=hid (hQ.out.trans (hb.mono hQ.out.size));have h5:=hid (hP.out.below hb hP.out.lt);have hd:=hid (hW.out.below hb hW.out.lt);clear hb hP hW hQ;have c0:W2.cell? ⟨W.heap.size,0,none⟩=some (.int .i64 (i.typ:Nat)):=h5.out.cell 0;go_wp2_with fail;refine(sort_any i.typ W2 HF.out.typ).mono ?_;rintro e W3 ⟨g3,g6,g8,rfl,_,hb⟩;obtain⟨b1,Ho⟩:∃b,(rowOf i.typ).1=b:=⟨_,rfl⟩;obtain⟨b2,Hp⟩:∃b,(rowOf i.typ).2.1=b:=⟨_,rfl⟩;obtain⟨n3,Hq⟩:∃b,(rowOf i.typ).2.2=b:=⟨_,rfl⟩;obtain⟨K1,cap1,Hs⟩:=rdV_form g3 g6 g8 i.typ;rw[Ho,Hp,Hq,Hs,HP.out.2.2.2.2.2.2];clear Ho Hp Hq Hs c0;have hY:=hid (hX.out.trans (hb.mono hX.out.size));have hu:=hid (h5.out.below hb h5.out.lt);have hA:=hid (hd.out.below hb hd.out.lt);clear hb h5 hd hX;go_upto_region 4 with fail;have hR:=hid (hY.out.alloc hY.out.size (.cells #[.bool b1,.bool b2,.int .i64 (n3:Nat),.func (.func K1) #[] cap1,.func (.func K) #[] #[]] 184));have h6:=hid (hu.out.alloc (.cells #[.bool b1,.bool b2,.int .i64 (n3:Nat),.func (.func K1) #[] cap1,.func (.func K) #[] #[]] 184));have he:=hid (hA.out.alloc (.cells #[.bool b1,.bool b2,.int .i64 (n3:Nat),.func (.func K1) #[] cap1,.func (.func K) #[] #[]] 184));have hN:=Blk.new W3 184 #[.bool b1,.bool b2,.int .i64 (n3:Nat),.func (.func K1) #[] cap1,.func (.func K) #[] #[]];generalize W3.alloc (.cells #[.bool b1,.bool b2,.int .i64 (n3:Nat),.func (.func K1) #[] cap1,.func (.func K) #[] #[]] 184)=W4 at*
 have d4:W4.cell? ⟨W3.heap.size,4,none⟩=some (.func (.func K) #[] #[]):=hN.cell 4;clear hN hu hA hY;go_wp2_with (first
  |(refine wpList_rowGet _ rfl (.tmp 1) 91 rfl W.heap.size 91 _ rfl h6.out _ Tryz.underlying91 rfl infSize ?_)
  |fail)
 refine(HW.out W4 hR.out).mono ?_;rintro e W5 ⟨A5,m5,c5,rfl,hZ,hb⟩;have Ht:=hid hZ;have hS:=hid (hR.out.trans (hb.mono hR.out.size));have hh:=hid (h6.out.below hb h6.out.lt);have h7:=hid (he.out.below hb he.out.lt);obtain rfl:=hZ.1;clear hb hZ d4 h6 he hR;go_wp2_with fail;refine(fcopied_any A5 _ c5 (pay i) W5 W5.heap.size Ht.out (Nat.le_refl _) (by have:=HP.out.2.2.2.2.1;omega)).mono ?_;rintro e W6 ⟨rfl,Hu,hb⟩;have H0:=hid Hu;have H1:=hid (hS.out.trans (hb.mono hS.out.size));have h0:=hid (hh.out.below hb hh.out.lt);have hi:=hid (h7.out.below hb h7.out.lt);have Hy:=hid hS.out.size;have H9:=hid (show W.heap.size+1<W5.heap.size from h7.out.lt);clear hb Hu hh h7 hS Ht;have c6:W6.cell? ⟨W.heap.size,6,none⟩=some (.bool i.padded):=h0.out.cell 6;rw[HP.out.2.2.2.2.2.1]at c6;generalize HB:W5.heap.size=g5 at*
 clear HB;go_upto_region 7 with fail;clear c6;have hT:=hid (show Blk (W6.drew.alloc (.cells #[.int .i64 0,.int .i64 0,.int .i64 0,.slice none 0 0] 24)) W.heap.size 91 (infC i (.slice S i.sets.length d) (.slice A i.data.length c))from Blk.alloc (w:=W6.drew) h0.out _);have H2:=hid (show Blk (W6.drew.alloc (.cells #[.int .i64 0,.int .i64 0,.int .i64 0,.slice none 0 0] 24)) W6.heap.size 24 #[.int .i64 0,.int .i64 0,.int .i64 0,.slice none 0 0]from Blk.new W6.drew _ _);have hC:=hid (λ(w7:World) (h:Below W6.drew.heap.size W6.drew w7)=>(show Below W6.heap.size W6 (w7.alloc (.cells #[.int .i64 (i.typ:Nat),.int .i64 (flg i:Nat),.int .i64 (i.stream:Nat),.slice (some ⟨g5,0,none⟩) (pay i).length (pay i).length] 24))from(below_of_drew h).alloc h.size _));have hD:=hid (λ(w7:World) (h:Below (W6.drew.alloc (.cells #[.int .i64 0,.int .i64 0,.int .i64 0,.slice none 0 0] 24)).heap.size (W6.drew.alloc (.cells #[.int .i64 0,.int .i64 0,.int .i64 0,.slice none 0 0] 24)) w7)=>(show Below W6.heap.size W6 w7 from(below_of_drew ((Below.refl _ W6.drew).alloc (Nat.le_refl _) (.cells #[.int .i64 0,.int .i64 0,.int .i64 0,.slice none 0 0] 24))).trans (h.mono (by simp))));have hne:W.heap.size≠W6.heap.size:=λe=>by have:=h0.out.lt;omega
 go_cut [7]from 37 to 44 (λt7 wx=>Hid (∃g7,t7= .pointer (some ⟨g7,0,none⟩)/\Below W6.heap.size W6 wx/\W6.heap.size<=g7/\Blk wx g7 24 #[.int .i64 (i.typ:Nat),.int .i64 (flg i:Nat),.int .i64 (i.stream:Nat),.slice (some ⟨g5,0,none⟩) (pay i).length (pay i).length]))
 case first=>
  as_aux_lemma=>
   refine wp_region_noPanic ?_;refine wp_region_held_drew (S:=(λW'=>Blk W' W.heap.size 91 (infC i (.slice S i.sets.length d) (.slice A i.data.length c)))) (by kernel_rfl) h0.out (λhHeld=>?_);refine tk 0 ?_;refine tk 1 ?_ (v:=.int .i64 (i.typ:Nat)) (hy:=by intro w ht;have H3:w.cell? ⟨W.heap.size,0,none⟩=some (.int .i64 (i.typ:Nat)):=ht.cell 0;go_simp;(first|done|with_reducible rfl));refine tk 2 ?_ (v:=.agg (infC i (.slice S i.sets.length d) (.slice A i.data.length c))) (hy:=by intro w ht;have H3:=load_row ht;simp[execOp];change(Result.andThen (Sem.run _ (Instr.loadAt _ (.pointer (some ⟨W.heap.size,0,none⟩))) w) _)=_;rw[H3];rfl);refine tk 4 ?_;refine tk 5 ?_ (v:=.int .i64 (i.stream:Nat)) (hy:=by intro w ht;have H3:w.cell? ⟨W.heap.size,2,none⟩=some (.int .i64 (i.stream:Nat)):=ht.cell 2;go_simp;(first|done|with_reducible rfl));refine tk 6 ?_;refine tkr2 3 8 (λK hK=>?_) (λK hK=>?_)
   · go_simp
     go_at_call 103;refine(flags_any i (.slice S i.sets.length d) (.slice A i.data.length c) _ HF.out.flags).mono ?_;rintro e w7 ⟨rfl,h9⟩;have h3:=hid (Blk.below (w:=W6.drew) h0.out h9 h0.out.lt);have hU:=hid h9;clear h9;refine hK.out _ _ h3.out (λhHeld2=>?_);clear hHeld;have hHeld:=hHeld2;clear hHeld2 hK K
     (try simp only[Act.put,List.setIfInBounds_toArray,List.set_cons_zero,List.set_cons_succ])
     refine tk 7 ?_;refine tkr 8 (λK hK=>?_);go_simp;refine hK.out _ _ (h3.out.alloc _) (λhHeld2=>?_);clear hHeld;have hHeld:=hHeld2;clear hHeld2 hK K
     (try simp only[Act.put,List.setIfInBounds_toArray,List.set_cons_zero,List.set_cons_succ])
     refine tkr 9 (λK hK=>?_);go_simp;refine hK.out _ _ (h3.out.alloc _) (λhHeld2=>?_);clear hHeld;have hHeld:=hHeld2;clear hHeld2 hK K
     (try simp only[Act.put,List.setIfInBounds_toArray,List.set_cons_zero,List.set_cons_succ])
     refine wpAnyH_done (by kernel_rfl) ?_ _;refine NoPanic.normal ?_;go_wp2_with fail;go_meet;exact hid ⟨_,rfl,hC.out _ hU.out,hU.out.size,Blk.new _ _ _⟩
   · go_simp
     refine hK.out _ _ hT.out (λhHeld2=>?_);clear hHeld;have hHeld:=hHeld2;clear hHeld2 hK K
     (try simp only[Act.put,List.setIfInBounds_toArray,List.set_cons_zero,List.set_cons_succ])
     refine tkr 3 (λK hK=>?_);go_simp;go_at_call 103;refine(flags_any i (.slice S i.sets.length d) (.slice A i.data.length c) _ HF.out.flags).mono ?_;rintro e w7 ⟨rfl,h9⟩;have h3:=hid (hT.out.below h9 hT.out.lt);have hU:=hid h9;have h4:=hid (H2.out.below h9 H2.out.lt);have e0:w7.cell? ⟨W6.heap.size,0,none⟩=_:=h4.out.cell 0;have e1:w7.cell? ⟨W6.heap.size,1,none⟩=_:=h4.out.cell 1;have e2:w7.cell? ⟨W6.heap.size,2,none⟩=_:=h4.out.cell 2;have e3:w7.cell? ⟨W6.heap.size,3,none⟩=_:=h4.out.cell 3;have f0:=h4.out.frozen 0;have f1:=h4.out.frozen 1;have f2:=h4.out.frozen 2;have f3:=h4.out.frozen 3;simp only[List.getElem?_toArray,List.getElem?_cons_zero,List.getElem?_cons_succ]at e0 e1 e2 e3;clear h9;refine hK.out _ _ h3.out (λhHeld2=>?_);clear hHeld;have hHeld:=hHeld2;clear hHeld2 hK K
     (try simp only[Act.put,List.setIfInBounds_toArray,List.set_cons_zero,List.set_cons_succ])
     refine tk 7 ?_;refine tkr 9 (λK hK=>?_);go_simp;refine hK.out _ _ (((((h3.out.far hne _).far hne _).far hne _).far hne _)) (λhHeld2=>?_);clear hHeld;have hHeld:=hHeld2;clear hHeld2 hK K
     (try simp only[Act.put,List.setIfInBounds_toArray,List.set_cons_zero,List.set_cons_succ])
     refine wpAnyH_done (by kernel_rfl) ?_ _;refine NoPanic.normal ?_;go_wp2_with fail;go_meet;exact hid ⟨_,rfl,below_four (hD.out _ hU.out) (Nat.le_refl _) _ _ _ _,Nat.le_refl _,Blk.four_put h4.out rfl _ _ _ _⟩
 case rest=>
  obtain⟨g7,rfl,hb,HC,hq⟩:=hcut.out;have H4:=hid (H1.out.trans (hb.mono H1.out.size));have hj:=hid (h0.out.below hb h0.out.lt);have hl:=hid (hi.out.below hb hi.out.lt);have hV:=hid (H0.out.below hb (λg e=>(H0.out.lt e).1));have h3:=hid hq;have e0:wc.cell? ⟨g7,0,none⟩=_:=hq.cell 0;have e1:wc.cell? ⟨g7,1,none⟩=_:=hq.cell 1;have e2:wc.cell? ⟨g7,2,none⟩=_:=hq.cell 2;have e3:wc.cell? ⟨g7,3,none⟩=_:=hq.cell 3;simp only[List.getElem?_toArray,List.getElem?_cons_zero,List.getElem?_cons_succ]at e0 e1 e2 e3;clear hcut hb HC hq hT H2 hC hD hne h0 hi H1 H0;go_wp2_with fail;refine(open_more i.typ (flg i) i.stream (some ⟨g5,0,none⟩) (pay i).length (pay i).length wc.heap.size (pay i) wc hV.out.rd (Nat.le_refl _) (Nat.le_refl _) HP.out.2.2.2.2.1 HF.out.typ HP.out.2.2.1 HF.out.stream HP.out.1 HP.out.2.1).mono ?_;rintro e W9 ⟨hb,hm⟩;rw[HP.out.2.2.2.1]at hm;obtain⟨sv2,dv2,rfl,H5,H7⟩:=hm;obtain⟨S2,d2,rfl,_,_⟩:=H5.form;obtain⟨A2,c2,rfl,HH,_,_⟩:=H7.form;have Hv:=hid (H4.out.trans (hb.mono H4.out.size));have hF:=hid (hj.out.below hb hj.out.lt);have hG:=hid (hl.out.below hb hl.out.lt);have hH:=hid (h3.out.below hb h3.out.lt);have Hx:=hid (hV.out.below hb (λg e=>(hV.out.lt e).1));have HD:=hid (SetR.of_own H5);have HE:=hid H7.rd;clear hb H5 H7 e0 e1 e2 e3 hj hl h3 hV H4;go_wp2_with (first
   |(refine wpList_rowPut _ rfl (.tmp 8) (.tmp 48) 91 rfl W9.heap.size 91 (infC {} (.slice none 0 0) (.slice none 0 0)) (infC i (.slice S2 i.sets.length d2) (.slice A2 i.data.length c2)) rfl rfl (Blk.new W9 91 _) infSize rfl (infC_one _ _ _ _ _ _ _) ?_
     intro w10 hI hJ;have hc:=(show Below W9.heap.size W9 w10 from((Below.refl W9.heap.size W9).alloc (Nat.le_refl _) (.cells (infC {} (.slice none 0 0) (.slice none 0 0)) 91)).grown hJ (by simp) (λj e=>by injection e with e;omega));have H8:=hid hc;have HG:=hid hI;have Ha:=hid (hF.out.below hc hF.out.lt);have hL:=hid (hG.out.below hc hG.out.lt);have hM:=hid (hH.out.below hc hH.out.lt);have hO:=hid (Hx.out.below hc (λg e=>(Hx.out.lt e).1));have h2:=hid (Hv.out.trans (hc.mono Hv.out.size));clear hI hJ hc)
   |(refine wpList_rowGetW _ rfl (.tmp 8) 91 rfl W9.heap.size 91 _ rfl HG.out _ Tryz.underlying91 rfl infSize ?_)
   |(refine wpList_rowGetW _ rfl (.tmp 1) 91 rfl W.heap.size 91 _ rfl Ha.out _ Tryz.underlying91 rfl infSize ?_)
   |(go_at_call 105
     refine(same_any i (.slice S2 i.sets.length d2) (.slice S i.sets.length d) A2 A i.data.length c2 c W9.heap.size W.heap.size _ (HD.out.below H8.out) (Hn.out.below h2.out) (HE.out.below H8.out) (HR.out.below h2.out) H8.out.size h2.out.size HF.out.few).mono ?_;rintro e W11 ⟨rfl,hb⟩;have h1:=hid (hL.out.below hb hL.out.lt);have h8:=hid (hM.out.below hb hM.out.lt);have Hb:=hid (hO.out.below hb (λg e=>(hO.out.lt e).1));have Hc:=hid (h2.out.trans (hb.mono h2.out.size));have e0:W11.cell? ⟨g7,0,none⟩=_:=h8.out.cell 0;have e1:W11.cell? ⟨g7,1,none⟩=_:=h8.out.cell 1;have e2:W11.cell? ⟨g7,2,none⟩=_:=h8.out.cell 2;have e3:W11.cell? ⟨g7,3,none⟩=_:=h8.out.cell 3;have k0:W11.cell? ⟨W.heap.size+1,0,none⟩=_:=h1.out.cell 0;have k1:W11.cell? ⟨W.heap.size+1,1,none⟩=_:=h1.out.cell 1;have k2:W11.cell? ⟨W.heap.size+1,2,none⟩=_:=h1.out.cell 2;have k3:W11.cell? ⟨W.heap.size+1,3,none⟩=_:=h1.out.cell 3;have q0:=h1.out.frozen 0;have q1:=h1.out.frozen 1;have q2:=h1.out.frozen 2;have q3:=h1.out.frozen 3;simp only[List.getElem?_toArray,List.getElem?_cons_zero,List.getElem?_cons_succ]at e0 e1 e2 e3 k0 k1 k2 k3;clear hb)
   |fail)
  refine bodyPost_ret (results_build _ _ (W.heap.size+1) _ _ _ _ _ rfl rfl (Blk.four_put h1.out rfl _ _ _ _)) rfl ⟨_,_,rfl,?_,below_four Hc.out (by omega) _ _ _ _⟩;exact(Hb.out.grown (grown_four W11 (W.heap.size+1) _ _ _ _) (.inr λe=>by have e:some g5=some (W.heap.size+1):=e;injection e with e;have:=H9.out;omega)).base Hy.out
end Go.Proofs.YtkpppjhbmnfmkaaGreatDoor
end

section
set_option maxHeartbeats 8000000
set_option maxRecDepth 100000
namespace Go.Proofs.YtkpppjhbmnfmkaaGreatDoor
open Lib (hid)
open Go.RowKit Go.Own Go.Own.Fr Go.Own.Im
attribute [local go_sem] Oper.semAt_some
def depI (i:Inf) (p:List UInt8):Inf:={i with alone:=decide (128<=(p.getD 0 0).toNat),dep:=low (ofB 0 (p.take 4)),weight:=(p.getD 4 0).toNat+1}
theorem withDep_is (i:Inf) (p:List UInt8):withDep i p=if(depI i p).dep=i.stream then .error (1,i.stream)else .ok (depI i p):=rfl
def DepPost (W:World) (g:Nat) (i:Inf) (l:List UInt8) (e:Ending) (w':World):Prop:=
 W.grownBy w' (some g)/\(∀B A n q,B<=W.heap.size->Rd W B A n q->Rd w' B A n q)/\Blk w' g 91 (infC (depI i l) (.slice none 0 0) (.slice none 0 0))/\
  (((depI i l).dep=i.stream/\∃a,e= .returned (.iface 196 (.pointer (some ⟨a,0,none⟩)))/\W.heap.size<=a/\Blk w' a 199 #[.int .i64 1,.int .i64 (i.stream:Nat)])\/((depI i l).dep≠i.stream/\e= .returned .nilIface))
theorem rdDep (g:Nat) (i:Inf) (A:Option Addr) (n c B:Nat) (l:List UInt8) (W:World) (hb:Blk W g 91 (infC i (.slice none 0 0) (.slice none 0 0))) (hr:Rd W B A n l) (hB:B<=W.heap.size) (hc:n<=c) (h5:5<=n):
 Calls Tryz.prog 178 #[.pointer (some ⟨g,0,none⟩),.slice A n c] W (DepPost W g i l):=by
 obtain⟨A1,hm,hq⟩:=cut_head byteP hr (4:Int) (k:=4) rfl (by omega) hc;have h9:ofB 0 (l.take 4)<9223372036854775808:=by
  have h1:=ofB_lt (l.take 4) 0;have h2:256^(l.take 4).length<=256^4:=Nat.pow_le_pow_right (by omega) (List.length_take_le _ _);omega
 obtain⟨ad,rfl,hE,hcell⟩:=hr.2 (by omega);have h0:=hcell 0 (by omega);rw[show ad.add 0=ad by cases ad;rfl]at h0;have h6:W.cell? ⟨ad.block,ad.off+4,none⟩=some (.int .u8 ((l.getD 4 0).toNat:Int)):=hcell 4 (by omega);obtain⟨v,hv⟩:∃v,ofB 0 (l.take 4)=v:=⟨_,rfl⟩;obtain⟨x,hx⟩:∃v:Int,((l.getD 0 0).toNat:Int)=v:=⟨_,rfl⟩;obtain⟨y,hy⟩:∃v:Int,((l.getD 4 0).toNat:Int)=v:=⟨_,rfl⟩;have hF:0<=y:=by omega
 have hs:y<256:=by have:=(l.getD 4 0).toNat_lt;omega
 have HJ:=hid (show depI i l={i with alone:=decide (128<=(l.getD 0 0).toNat),dep:=low v,weight:=(l.getD 4 0).toNat+1}by unfold depI;rw[hv]);have HE:=hid (show infC (depI i l) (.slice none 0 0) (.slice none 0 0)=(((infC i (.slice none 0 0) (.slice none 0 0)).setIfInBounds 8 (.bool (decide (128<=x)))).setIfInBounds 10 (.int .i64 (low v:Nat))).setIfInBounds 11 (.int .i64 (y+1))by
  rw[HJ.out];have e1:decide (128<=(l.getD 0 0).toNat)=decide (128<=x):=by rw[<-hx];simp;omega
  have e2:(((l.getD 4 0).toNat+1:Nat):Int)=y+1:=by rw[<-hy];omega
  simp only[infC,e1,e2]
  rfl)
 rw[hx]at h0;rw[hy]at h6;rw[hv]at h9;have hn:=hid (λW' (h:Rd W' B A1 4 (l.take 4))=>of_any A1 4 c (l.take 4) W' B h (Nat.le_refl _));rw[hv]at hn;have ht:=hid (λW'=>low_any v W' h9);have c8:W.cell? ⟨g,8,none⟩=some (.bool i.alone):=hb.cell 8;have c10:W.cell? ⟨g,10,none⟩=some (.int .i64 (i.dep:Nat)):=hb.cell 10;have c11:W.cell? ⟨g,11,none⟩=some (.int .i64 (i.weight:Nat)):=hb.cell 11;have f8:=hb.frozen 8;have f10:=hb.frozen 10;have f11:=hb.frozen 11;have e1:wrap64 (y+1)=y+1:=by unfold wrap64;omega
 have e2:IntKind.i64.wrap (y+1)=y+1:=by rw[IntKind.wrap_i64];omega
 have e3:IntKind.i64.wrap y=y:=by rw[IntKind.wrap_i64];omega
 have i0:((0:Int)<(n:Int))=True:=by simp;omega
 have i0n:(0<n)=True:=by simp;omega
 have i4:((4:Int)<(n:Int))=True:=by simp;omega
 have HB:=hid hb;have hA:=hid hm;have hC:=hid (show W.cell? ad=some (.int .u8 x)/\W.cell? ⟨ad.block,ad.off+4,none⟩=some (.int .u8 y)from⟨h0,h6⟩);have hf:=hid (show W.drew.cell? ad=some (.int .u8 x)/\W.drew.cell? ⟨ad.block,ad.off+4,none⟩=some (.int .u8 y)from⟨h0,h6⟩);have hk:∀W',Rd W' B (some ad) n l->W'.cell? ad=some (.int .u8 x)/\W'.cell? ⟨ad.block,ad.off+4,none⟩=some (.int .u8 y):=λW' h=>by
  obtain⟨ad',e,_,h'⟩:=h.2 (by omega);injection e with e
  subst e;have q0:=h' 0 (by omega);rw[show ad.add 0=ad by cases ad;rfl,hx]at q0;have q4:W'.cell? ⟨ad.block,ad.off+4,none⟩=some (.int .u8 ((l.getD 4 0).toNat:Int)):=h' 4 (by omega);rw[hy]at q4;exact⟨q0,q4⟩
 have r8:∀u B A n q,Rd W B A n q->Rd (W.setCell ⟨g,8,none⟩ u) B A n q:=λu B A n q h=>h.set_far c8 (by simp) u;have r10:∀u v B A n q,Rd W B A n q->Rd ((W.setCell ⟨g,8,none⟩ u).setCell ⟨g,10,none⟩ v) B A n q:=λu v B A n q h=>(r8 u B A n q h).set_far (x:=.int .i64 (i.dep:Nat)) ((hb.put 8 u).cell 10) (by simp) v;have r11:∀u v t B A n q,Rd W B A n q->Rd (((W.setCell ⟨g,8,none⟩ u).setCell ⟨g,10,none⟩ v).setCell ⟨g,11,none⟩ t) B A n q:=λu v t B A n q h=>(r10 u v B A n q h).set_far (x:=.int .i64 (i.weight:Nat)) (((hb.put 8 u).put 10 v).cell 11) (by simp) t;have hD:=hid (λ(u:Value)=>(show(W.setCell ⟨g,8,none⟩ u).cell? ad=some (.int .u8 x)/\(W.setCell ⟨g,8,none⟩ u).cell? ⟨ad.block,ad.off+4,none⟩=some (.int .u8 y)from hk _ (r8 u _ _ _ _ hr)));have hh:=hid (λ(u:Value)=>(show(W.setCell ⟨g,8,none⟩ u).drew.cell? ad=some (.int .u8 x)/\(W.setCell ⟨g,8,none⟩ u).drew.cell? ⟨ad.block,ad.off+4,none⟩=some (.int .u8 y)from hk _ (r8 u _ _ _ _ hr)));have hi:=hid (λ(u v:Value)=>(show((W.setCell ⟨g,8,none⟩ u).setCell ⟨g,10,none⟩ v).cell? ad=some (.int .u8 x)/\((W.setCell ⟨g,8,none⟩ u).setCell ⟨g,10,none⟩ v).cell? ⟨ad.block,ad.off+4,none⟩=some (.int .u8 y)from hk _ (r10 u v _ _ _ _ hr)));have h3:=hid (λ(u v:Value)=>(show((W.setCell ⟨g,8,none⟩ u).setCell ⟨g,10,none⟩ v).drew.cell? ad=some (.int .u8 x)/\((W.setCell ⟨g,8,none⟩ u).setCell ⟨g,10,none⟩ v).drew.cell? ⟨ad.block,ad.off+4,none⟩=some (.int .u8 y)from hk _ (r10 u v _ _ _ _ hr)));have hj:=hid (λ(u v t:Value)=>(show(((W.setCell ⟨g,8,none⟩ u).setCell ⟨g,10,none⟩ v).setCell ⟨g,11,none⟩ t).cell? ad=some (.int .u8 x)/\(((W.setCell ⟨g,8,none⟩ u).setCell ⟨g,10,none⟩ v).setCell ⟨g,11,none⟩ t).cell? ⟨ad.block,ad.off+4,none⟩=some (.int .u8 y)from hk _ (r11 u v t _ _ _ _ hr)));have h4:=hid (λ(u v t:Value)=>(show(((W.setCell ⟨g,8,none⟩ u).setCell ⟨g,10,none⟩ v).setCell ⟨g,11,none⟩ t).drew.cell? ad=some (.int .u8 x)/\(((W.setCell ⟨g,8,none⟩ u).setCell ⟨g,10,none⟩ v).setCell ⟨g,11,none⟩ t).drew.cell? ⟨ad.block,ad.off+4,none⟩=some (.int .u8 y)from hk _ (r11 u v t _ _ _ _ hr)));have hl:=hid r11;clear h9 hm hb hr hv hx hy hcell h0 h6 h5 hk r8 r10 r11;go_enter Tryz.func178,Tryz.ntmps178;go_upto_region 1 with fail;go_region_held3 (λW'=>W'.cell? ad=some (.int .u8 x)/\W'.cell? ⟨ad.block,ad.off+4,none⟩=some (.int .u8 y)) (first|with_reducible exact hC.out|with_reducible exact hf.out|with_reducible exact hD.out _|with_reducible exact hh.out _|with_reducible exact hi.out _ _|with_reducible exact h3.out _ _|with_reducible exact hj.out _ _ _|with_reducible exact h4.out _ _ _) (first
  |(go_at_call 113
    with_reducible refine Calls.mono (hn.out _ ?_) ?_
    · first|exact hA.out
    rintro e w1 ⟨rfl,hw⟩;subst w1)
  |(go_at_call 114
    with_reducible refine Calls.mono (ht.out _) ?_
    rintro e w1 ⟨rfl,hw⟩;subst w1)
  |fail)
 all_goals
  have h7:=hid (show Blk (((W.setCell ⟨g,8,none⟩ (.bool (decide (128<=x)))).setCell ⟨g,10,none⟩ (.int .i64 (low v:Nat))).setCell ⟨g,11,none⟩ (.int .i64 (y+1))).drew g 91 (infC (depI i l) (.slice none 0 0) (.slice none 0 0))from HE.out▸((HB.out.put 8 _).put 10 _).put 11 _);have h8:=hid (show W.grownBy (((W.setCell ⟨g,8,none⟩ (.bool (decide (128<=x)))).setCell ⟨g,10,none⟩ (.int .i64 (low v:Nat))).setCell ⟨g,11,none⟩ (.int .i64 (y+1))).drew (some g)from grown_drewN (grown_setCell (grown_setCell (grown_setCell (World.grownBy.refl W (some g)) 8 _) 10 _) 11 _) 1);have ho:=hid (λB A n q (h:Rd W B A n q)=>(show Rd (((W.setCell ⟨g,8,none⟩ (.bool (decide (128<=x)))).setCell ⟨g,10,none⟩ (.int .i64 (low v:Nat))).setCell ⟨g,11,none⟩ (.int .i64 (y+1))).drew B A n q from hl.out _ _ _ B A n q h));generalize (((W.setCell ⟨g,8,none⟩ (.bool (decide (128<=x)))).setCell ⟨g,10,none⟩ (.int .i64 (low v:Nat))).setCell ⟨g,11,none⟩ (.int .i64 (y+1))).drew=W3 at*
  have d10:W3.cell? ⟨g,10,none⟩=some (.int .i64 (low v:Nat)):=by have h:W3.cell? ⟨g,10,none⟩=some (.int .i64 ((depI i l).dep:Nat)):=h7.out.cell 10;rw[HJ.out]at h;exact h
  have d2:W3.cell? ⟨g,2,none⟩=some (.int .i64 (i.stream:Nat)):=h7.out.cell 2;clear c8 c10 c11 f8 f10 f11;have he:(depI i l).dep=low v:=by rw[HJ.out]
  obtain⟨u,hu⟩:∃u,low v=u:=⟨_,rfl⟩;rw[hu]at d10 he;have HU:=hid he;clear hu he;by_cases hd:u=i.stream
  · subst hd
    go_upto_region 2 with fail;go_quiet (fail);have d2n:=λn=>(show(W3.drewN n).cell? ⟨g,2,none⟩=some (.int .i64 (i.stream:Nat))from d2);go_wp2_with fail;refine(fault_any 1 (i.stream:Nat) _).mono ?_;rintro e w1 ⟨rfl,hw⟩;subst w1;go_wp2;go_ret;exact⟨grown_alloc (grown_drewN h8.out _) _,λB A n q hB h=>Rd.alloc ((ho.out B A n q h).drewN _) (Nat.le_trans hB h8.out.size) _,h7.out.alloc _,.inl ⟨HU.out,_,rfl,h8.out.size,Blk.new _ _ _⟩⟩
  · have hG:((u:Int)=(i.stream:Int))=False:=by simp;omega
    have hH:((u:Int)==(i.stream:Int))=false:=by simp;omega
    go_upto_region 2 with fail;go_quiet (fail);go_wp2;go_ret;exact⟨grown_drewN h8.out _,λB A n q _ h=>(ho.out B A n q h).drewN _,h7.out,.inr ⟨by rw[HU.out];exact hd,rfl⟩⟩
theorem rdHeadsP (g:Nat) (i:Inf) (A:Option Addr) (n c B:Nat) (l:List UInt8) (W:World) (hb:Blk W g 91 (infC i (.slice none 0 0) (.slice none 0 0))) (hr:Rd W B A n l) (hB:B<=W.heap.size) (hc:n<=c) (hn:n<=1000000000) (ht:i.typ=1) (hp:i.prio=true) (hs:i.sets=[]):
 Calls Tryz.prog 177 #[.pointer (some ⟨g,0,none⟩),.slice A n c] W (RdPost W g i l):=by
 have hl:=hr.1;have c7:W.cell? ⟨g,7,none⟩=some (.bool i.prio):=hb.cell 7;rw[hp]at c7;by_cases h5:n<5
 · have h8:((n:Int)<5)=True:=by simp;omega
   have HR:=hid (show rd i l= .error (6,0)by simp[rd,ht,hp,hl,h5]);clear hb hr;go_enter Tryz.func177,Tryz.ntmps177;go_wp2_with fail;refine(fault_any 6 0 _).mono ?_;rintro e w1 ⟨rfl,hw⟩;subst w1;go_wp2;go_ret;refine⟨(World.grownBy_alloc W _ _),?_⟩;rw[HR.out];exact⟨_,rfl,Nat.le_refl _,Blk.new _ _ _⟩
 · have h8:((n:Int)<5)=False:=by simp;omega
   have HD:=hid (rdDep g i A n c B l W hb hr hB hc (by omega));have HR:=hid (show rd i l=if(depI i l).dep=i.stream then .error (1,i.stream)else .ok {depI i l with data:=l.drop 5}by
    unfold rd;rw[ht];simp only[hp,hl,if_neg h5,withDep_is,↓reduceIte];by_cases hd:(depI i l).dep=i.stream<;>simp[hd])
   obtain⟨A3,h3,h7⟩:=cut_from byteP hr (5:Int) (k:=5) rfl (by omega) hc;have h9:=hid h3;clear hb hr h3;go_enter Tryz.func177,Tryz.ntmps177;go_wp2_with fail;refine HD.out.mono ?_;rintro e w1 ⟨hg,hk,h4,h0⟩;have HG:=hid hg;have he:=hid h4;have hf:=hid (hk _ _ _ _ hB h9.out);clear hg hk h4;rcases h0 with⟨hd,a,rfl,ha,h6⟩|⟨hd,rfl⟩
   · have HX:=hid (And.intro hd (And.intro ha h6))
     clear hd ha h6;go_wp2;go_ret;refine⟨HG.out,?_⟩;rw[HR.out,if_pos HX.out.1];exact⟨a,rfl,HX.out.2.1,HX.out.2.2⟩
   · have HX:=hid hd
     clear hd;go_wp2_with fail;refine(rest_any g (depI i l) _ _ A3 (n-5) (c-5) B (l.drop 5) _ he.out hf.out (Nat.le_trans hB HG.out.size) (by omega)).mono ?_;rintro e w' ⟨rfl,hg,dv,h1,h2⟩;have hh:=hid (grown_trans HG.out hg);have hi:=hid h1;have hj:=hid (h2.base HG.out.size);clear hg h1 h2;go_wp2;go_ret;refine⟨hh.out,?_⟩;rw[HR.out,if_neg HX.out];refine⟨rfl,_,dv,hi.out,?_,?_⟩
     · show SetO _ _ _ i.sets
       rw[hs];exact setO_nil _ _
     · show Ow _ _ _ dv (l.drop 5).length (l.drop 5)
       rw[List.length_drop,hl];exact hj.out
theorem rdPrio (g:Nat) (i:Inf) (A:Option Addr) (n c B:Nat) (l:List UInt8) (W:World) (hb:Blk W g 91 (infC i (.slice none 0 0) (.slice none 0 0))) (hr:Rd W B A n l) (hB:B<=W.heap.size) (hc:n<=c) (ht:i.typ=2) (hs:i.sets=[]/\i.data=[]):
 Calls Tryz.prog 181 #[.pointer (some ⟨g,0,none⟩),.slice A n c] W (RdPost W g i l):=by
 have hl:=hr.1;have c2:W.cell? ⟨g,2,none⟩=some (.int .i64 (i.stream:Nat)):=hb.cell 2;by_cases h5:n=5
 · subst h5
   have HD:=hid (rdDep g i A 5 c B l W hb hr hB hc (by omega));have HR:=hid (show rd i l=if(depI i l).dep=i.stream then .error (1,i.stream)else .ok (depI i l)by simp only[rd,ht,hl,withDep_is];rfl);clear hb hr;go_enter Tryz.func181,Tryz.ntmps181;go_wp2_with fail;refine HD.out.mono ?_;rintro e w1 ⟨hg,hk,h1,h0⟩;have HG:=hid hg;have h3:=hid h1;clear hg hk h1;rcases h0 with⟨hd,a,rfl,ha,h2⟩|⟨hd,rfl⟩
   · have HX:=hid (And.intro hd (And.intro ha h2))
     clear hd ha h2;go_wp2;go_ret;refine⟨HG.out,?_⟩;rw[HR.out,if_pos HX.out.1];exact⟨a,rfl,HX.out.2.1,HX.out.2.2⟩
   · have HX:=hid hd
     clear hd;go_wp2;go_ret;refine⟨HG.out,?_⟩;rw[HR.out,if_neg HX.out];refine⟨rfl,_,_,h3.out,?_,?_⟩
     · show SetO _ _ _ i.sets
       rw[hs.1];exact setO_nil _ _
     · show Ow _ _ _ _ i.data.length i.data
       rw[hs.2];exact ow_nil _ _ _
 · have h6:((n:Int)=5)=False:=by simp;omega
   have h4:((n:Int) != 5)=true:=by simp;omega
   have HR:=hid (show rd i l= .error (6,i.stream)by simp[rd,ht,hl,h5]);clear hb hr;go_enter Tryz.func181,Tryz.ntmps181;go_wp2_with fail;refine(fault_any 6 (i.stream:Nat) _).mono ?_;rintro e w1 ⟨rfl,hw⟩;subst w1;go_wp2;go_ret;refine⟨(World.grownBy_alloc W _ _),?_⟩;rw[HR.out];exact⟨_,rfl,Nat.le_refl _,Blk.new _ _ _⟩
theorem rdPush (g:Nat) (i:Inf) (A:Option Addr) (n c B:Nat) (l:List UInt8) (W:World) (hb:Blk W g 91 (infC i (.slice none 0 0) (.slice none 0 0))) (hr:Rd W B A n l) (hB:B<=W.heap.size) (hc:n<=c) (hn:n<=1000000000) (ht:i.typ=5) (hs:i.sets=[]):
 Calls Tryz.prog 187 #[.pointer (some ⟨g,0,none⟩),.slice A n c] W (RdPost W g i l):=by
 have hl:=hr.1;by_cases h4:n<4
 · have hd:((n:Int)<4)=True:=by simp;omega
   have HR:=hid (show rd i l= .error (6,0)by simp[rd,ht,hl,h4]);clear hb hr;go_enter Tryz.func187,Tryz.ntmps187;go_wp2_with fail;refine(fault_any 6 0 _).mono ?_;rintro e w1 ⟨rfl,hw⟩;subst w1;go_wp2;go_ret;refine⟨(World.grownBy_alloc W _ _),?_⟩;rw[HR.out];exact⟨_,rfl,Nat.le_refl _,Blk.new _ _ _⟩
 · have hd:((n:Int)<4)=False:=by simp;omega
   obtain⟨A1,h3,h8⟩:=cut_head byteP hr (4:Int) (k:=4) rfl (by omega) hc;obtain⟨A3,h5,h9⟩:=cut_from byteP hr (4:Int) (k:=4) rfl (by omega) hc;have h6:ofB 0 (l.take 4)<9223372036854775808:=by
    have h1:=ofB_lt (l.take 4) 0;have h2:256^(l.take 4).length<=256^4:=Nat.pow_le_pow_right (by omega) (List.length_take_le _ _);omega
   have HR:=hid (show rd i l=if low (ofB 0 (l.take 4))=0 then .error (1,0)else .ok {i with promise:=low (ofB 0 (l.take 4)),data:=l.drop 4}by simp[rd,ht,hl,h4]);have he:=hid (of_any A1 4 c (l.take 4) W B h3 (Nat.le_refl _));have h7:=hid (low_any (ofB 0 (l.take 4)) W h6);obtain⟨v,hv⟩:∃v,low (ofB 0 (l.take 4))=v:=⟨_,rfl⟩;rw[hv]at h7 HR;have c15:W.cell? ⟨g,15,none⟩=some (.int .i64 (i.promise:Nat)):=hb.cell 15;have f15:=hb.frozen 15;have HB:=hid hb;have hf:=hid (h5.set_far c15 (by simp) (.int .i64 (v:Nat)));clear h3 h5 h6 hb hr hv;go_enter Tryz.func187,Tryz.ntmps187;go_wp2_with fail;refine he.out.mono ?_;rintro e w1 ⟨rfl,hw⟩;subst w1;go_wp2_with fail;refine h7.out.mono ?_;rintro e w1 ⟨rfl,hw⟩;subst w1;by_cases h0:v=0
   · subst h0
     rw[if_pos rfl]at HR;go_wp2_with fail;refine(fault_any 1 0 _).mono ?_;rintro e w1 ⟨rfl,hw⟩;subst w1;go_wp2;go_ret;refine⟨grown_alloc (grown_setCell (World.grownBy.refl W (some g)) 15 _) _,?_⟩;rw[HR.out];refine⟨_,rfl,by simp,?_⟩;have h:=Blk.new (W.setCell ⟨g,15,none⟩ (.int .i64 0)) 199 #[.int .i64 1,.int .i64 0];rw[show(W.setCell ⟨g,15,none⟩ (.int .i64 0)).heap.size=W.heap.size by simp]at h;exact h
   · have hm:¬(v:Int)=0:=by omega
     rw[if_neg h0]at HR;have hh:=hid (HB.out.put 15 (.int .i64 (v:Nat)));have HZ:=hid (show(W.setCell ⟨g,15,none⟩ (.int .i64 (v:Nat))).heap.size=W.heap.size by simp);go_wp2_with fail;refine(rest_any g {i with promise:=v} _ _ A3 (n-4) (c-4) B (l.drop 4) _ hh.out hf.out (by rw[HZ.out];exact hB) (by omega)).mono ?_;rintro e w' ⟨rfl,hg,dv,h1,h2⟩;rw[HZ.out]at h2;have hi:=hid (grown_trans (grown_setCell (World.grownBy.refl W (some g)) 15 (.int .i64 (v:Nat))) hg);have hj:=hid h1;have hk:=hid h2;clear hg h1 h2;go_wp2;go_ret;refine⟨hi.out,?_⟩;rw[HR.out];refine⟨rfl,_,dv,hj.out,?_,?_⟩
     · show SetO _ _ _ i.sets
       rw[hs];exact setO_nil _ _
     · show Ow _ _ _ dv (l.drop 4).length (l.drop 4)
       rw[List.length_drop,hl];exact hk.out
end Go.Proofs.YtkpppjhbmnfmkaaGreatDoor
end

section
set_option maxHeartbeats 16000000
set_option maxRecDepth 100000
namespace Go.Proofs.YtkpppjhbmnfmkaaGreatDoor
open Lib (hid)
open Go.RowKit Go.Own Go.Own.Fr Go.Own.Im
def padO (t f s:Nat):List UInt8->Except (Nat×Nat) Inf
 |[]=>.error (6,0)
 |x::q=>if(x::q).length<=x.toNat then .error (1,0)else rd ({info0 t f s with pad:=x.toNat}:Inf) (q.take (q.length-x.toNat))
theorem opn_padx {t f s:Nat} {l:List UInt8} (h8:hasF t f 8=true) (h1:(rowOf t).1=false) (h2:(rowOf t).2.1=true):opn t f s l=if s=0 then .error (1,0)else padO t f s l:=by
 unfold opn;rw[h1,h2];by_cases h0:s=0
 · simp[h0]
 · rw[if_neg (by simp[h0]),if_neg h0,if_pos h8]
   cases l<;>rfl
theorem open_padx (t f s:Nat) (HF:t=0\/t=1\/t=5) (A:Option Addr) (n c B:Nat) (l:List UInt8) (W:World) (hr:Rd W B A n l) (hB:B<=W.heap.size) (hc:n<=c) (hn:n<=1000000) (hf:f<=255) (h8:hasF t f 8=true) (hs:s<=2147483647)
 (hH:∀(x:UInt8) (q:List UInt8) (W':World) (g g3 g6 g8:Nat) (A':Option Addr) (n' c':Nat),Below W.heap.size W W'->Blk W' g 91 (infC ({info0 t f s with pad:=x.toNat}:Inf) (.slice none 0 0) (.slice none 0 0))->W.heap.size<=g->Rd W' W.heap.size A' n' (q.take (q.length-x.toNat))->n'<=c'->n'<=1000000->
   ∃K cap,rdV g3 g6 g8 t= .func (.func K) #[] cap/\Enters Tryz.prog K/\Calls Tryz.prog K (#[.pointer (some ⟨g,0,none⟩),.slice A' n' c']++cap) W' (RdPost W' g ({info0 t f s with pad:=x.toNat}:Inf) (q.take (q.length-x.toNat)))):
 Calls Tryz.prog 104 #[.agg #[.int .i64 (t:Nat),.int .i64 (f:Nat),.int .i64 (s:Nat),.slice A n c]] W (OpPost W t f s l):=by
 have ht:t<=255:=by omega
 have hl:l.length=n:=hr.1;have ho:(rowOf t).1=false/\(rowOf t).2.1=true/\decide (t<=9)=true:=by rcases HF with rfl|rfl|rfl<;>exact⟨rfl,rfl,rfl⟩
 have hC:=hid (opn_padx (l:=l) (s:=s) h8 ho.1 ho.2.1);have HC:=hid hr;have HB:=hid hB;have HP:=hid h8;have HN:=hid (show _/\_/\_ from⟨hc,hn,hl⟩);have H5:=hid ho;have h9:=hid hH;have HG:=hid (λw=>sort_any t w ht);clear h8 hr hB hc hn hl HF ho hH;go_enter Tryz.func104,Tryz.ntmps104;go_upto_region 1 with fail;obtain⟨W0,HH,HK,HO,H7,HR⟩:=open_start W t f s (.slice A n c);rw[HH];have HS:=hid HK;have HZ:=hid HO;have H8:=hid H7;have H9:=hid HR;have c0:W0.cell? ⟨W.heap.size,0,none⟩=some (.int .i64 (t:Nat)):=H7.cell 0;clear HH HK HO H7 HR;go_wp2_with fail;refine(HG.out W0).mono ?_;rintro e W1 ⟨g3,g6,g8,rfl,hE,hM⟩;have HE:=hid hE;have hN:=hid hM;clear c0 hE hM;have hY:=hid (H8.out.below hN.out H8.out.lt);have hZ:=hid (H9.out.below hN.out H9.out.lt);obtain⟨K1,cap1,Ha⟩:=rdV_form g3 g6 g8 t;obtain⟨K2,HT⟩:=wrV_form t;rw[Ha,HT];obtain⟨b1,hM⟩:∃b,(rowOf t).1=b:=⟨_,rfl⟩;obtain⟨b2,Hb⟩:∃b,(rowOf t).2.1=b:=⟨_,rfl⟩;obtain⟨n3,hV⟩:∃b,(rowOf t).2.2=b:=⟨_,rfl⟩;obtain⟨d9,Hc⟩:∃b,decide (t<=9)=b:=⟨_,rfl⟩;rw[hM,Hb,hV,Hc];have HQ:=hid (show(rowOf t).1=b1/\(rowOf t).2.1=b2/\(rowOf t).2.2=n3/\decide (t<=9)=d9/\rdV g3 g6 g8 t= .func (.func K1) #[] cap1 from⟨hM,Hb,hV,Hc,Ha⟩);clear hM Hb hV Hc Ha HT;go_upto_region 2 with fail;have h3:=hid (Blk.new W1 184 #[.bool b1,.bool b2,.int .i64 (n3:Nat),.func (.func K1) #[] cap1,.func (.func K2) #[] #[]]);have hW:=hid ((HS.out.trans (hN.out.mono (by have:=HZ.out;omega))).alloc (by have:=hN.out.size;have:=HZ.out;omega) (.cells #[.bool b1,.bool b2,.int .i64 (n3:Nat),.func (.func K1) #[] cap1,.func (.func K2) #[] #[]] 184));have h6:=hid (hY.out.alloc (.cells #[.bool b1,.bool b2,.int .i64 (n3:Nat),.func (.func K1) #[] cap1,.func (.func K2) #[] #[]] 184));have hq:=hid (hZ.out.alloc (.cells #[.bool b1,.bool b2,.int .i64 (n3:Nat),.func (.func K1) #[] cap1,.func (.func K2) #[] #[]] 184));have He:=hid (HE.out.below ((Below.refl W1.heap.size W1).alloc (Nat.le_refl _) (.cells #[.bool b1,.bool b2,.int .i64 (n3:Nat),.func (.func K1) #[] cap1,.func (.func K2) #[] #[]] 184)));have H2:=hid (show(W1.alloc (.cells #[.bool b1,.bool b2,.int .i64 (n3:Nat),.func (.func K1) #[] cap1,.func (.func K2) #[] #[]] 184)).heap.size=W1.heap.size+1/\W.heap.size+2<=W1.heap.size by
  refine⟨by simp,?_⟩;have:=hN.out.size;have:=HZ.out;omega)
 generalize W1.alloc (.cells #[.bool b1,.bool b2,.int .i64 (n3:Nat),.func (.func K1) #[] cap1,.func (.func K2) #[] #[]] 184)=W2 at h3 hW h6 hq He H2 ⊢;obtain⟨r4,HU⟩:∃r,W1.heap.size=r:=⟨_,rfl⟩;rw[HU]at h3 H2 ⊢;clear HU hN HE hY hZ H8 H9 HS HZ HG;obtain⟨c0,c1,c2,c3⟩:W2.cell? ⟨W.heap.size,0,none⟩=some (.int .i64 (t:Nat))/\W2.cell? ⟨W.heap.size,1,none⟩=some (.int .i64 (f:Nat))/\W2.cell? ⟨W.heap.size,2,none⟩=some (.int .i64 (s:Nat))/\W2.cell? ⟨W.heap.size,3,none⟩=some (.slice A n c):=⟨h6.out.cell 0,h6.out.cell 1,h6.out.cell 2,h6.out.cell 3⟩;obtain⟨q0,q1,q2,q3⟩:W2.cell? ⟨r4,0,none⟩=some (.bool b1)/\W2.cell? ⟨r4,1,none⟩=some (.bool b2)/\W2.cell? ⟨r4,2,none⟩=some (.int .i64 (n3:Nat))/\W2.cell? ⟨r4,3,none⟩=some (.func (.func K1) #[] cap1):=⟨h3.out.cell 0,h3.out.cell 1,h3.out.cell 2,h3.out.cell 3⟩;go_upto_region 3 with(first
  |(refine wpList_rowPut _ rfl (.tmp 6) (.tmp 20) 91 rfl W2.heap.size 91 (infC {} (.slice none 0 0) (.slice none 0 0)) (infC {typ:=t,stream:=s} (.slice none 0 0) (.slice none 0 0)) rfl rfl (Blk.new W2 91 _) infSize rfl (infC_one _ _ _ _ _ _ _) ?_
    intro W3 HV HW;have HI:=hid HV;have hg:=grown_trans (World.grownBy_alloc W2 (.cells (infC {} (.slice none 0 0) (.slice none 0 0)) 91) (some W2.heap.size)) HW;have hO:=hid (hW.out.grown hg hW.out.size (λg e=>by injection e with e;have:=hW.out.size;omega));have hd:=hid (h6.out.grown hg (λe=>by injection e with e;have:=h6.out.lt;omega));have hA:=hid (hq.out.grown hg (λe=>by injection e with e;have:=hq.out.lt;omega));have hP:=hid (h3.out.grown hg (λe=>by injection e with e;have:=h3.out.lt;omega));have HX:=hid (show ExS W3 g3 g6 g8 from He.out.below ⟨hg.os,hg.tape,hg.output,hg.size,λi hi=>hg.block i hi (λe=>by injection e with e;omega)⟩);have hQ:=hid (show W2.heap.size=r4+1/\W.heap.size+2<=r4 from H2.out);clear HV HW hg)
  |fail)
 obtain⟨gi,HY⟩:∃r,W2.heap.size=r:=⟨_,rfl⟩;rw[HY]at HI hQ ⊢;clear HY c0 c1 c2 c3 q0 q1 q2 q3 h6 hq h3 hW He H2;obtain⟨c0,c1,c2,c3⟩:W3.cell? ⟨W.heap.size,0,none⟩=some (.int .i64 (t:Nat))/\W3.cell? ⟨W.heap.size,1,none⟩=some (.int .i64 (f:Nat))/\W3.cell? ⟨W.heap.size,2,none⟩=some (.int .i64 (s:Nat))/\W3.cell? ⟨W.heap.size,3,none⟩=some (.slice A n c):=⟨hd.out.cell 0,hd.out.cell 1,hd.out.cell 2,hd.out.cell 3⟩;obtain⟨q0,q1,q2,q3⟩:W3.cell? ⟨r4,0,none⟩=some (.bool b1)/\W3.cell? ⟨r4,1,none⟩=some (.bool b2)/\W3.cell? ⟨r4,2,none⟩=some (.int .i64 (n3:Nat))/\W3.cell? ⟨r4,3,none⟩=some (.func (.func K1) #[] cap1):=⟨hP.out.cell 0,hP.out.cell 1,hP.out.cell 2,hP.out.cell 3⟩;have hV:n3<=255:=by rw[<-HQ.out.2.2.1];exact rowOf_fl t
 have he:=hid (λ(k:Nat) (hk:k<=255) (W':World) (h4:W'.cell? ⟨r4,2,none⟩=some (.int .i64 (n3:Nat))) (h1:W'.cell? ⟨W.heap.size,1,none⟩=some (.int .i64 (f:Nat)))=>has_any k n3 f r4 W.heap.size W' h4 h1 (by omega) (by omega) (by omega));clear hV;obtain rfl:b1=false:=by rw[<-HQ.out.1];exact H5.out.1
 obtain rfl:b2=true:=by rw[<-HQ.out.2.1];exact H5.out.2.1
 obtain rfl:d9=true:=by rw[<-HQ.out.2.2.2.1];exact H5.out.2.2
 have gf:W.heap.size+1<W3.heap.size:=hA.out.lt;by_cases h0:s=0
 · subst h0
   have hh:=hid (show opn t f 0 l= .error (1,0)by rw[hC.out,if_pos rfl]);go_upto_region 4 with fail;go_wp2_with fail;refine(fault_any 1 0 _).mono ?_;rintro e W4 ⟨rfl,hw⟩;subst W4;go_wp2_with (first
    |(refine wpList_rowPut _ rfl (.tmp 2) (.tmp 39) 91 rfl (W.heap.size+1) 91 (infC {} (.slice none 0 0) (.slice none 0 0)) (infC {} (.slice none 0 0) (.slice none 0 0)) rfl rfl (hA.out.alloc _) infSize rfl (infC_one _ _ _ _ _ _ _) ?_
      intro W4 hX hD)
    |fail)
   refine bodyPost_ret (results_open _ _ (W.heap.size+1) {} _ _ _ rfl rfl hX) rfl ⟨?_,?_⟩
   · exact(hO.out.alloc hO.out.size _).grown hD (by have:=hO.out.size;simp;omega) (λg e=>by injection e with e;omega)
   · rw[hh.out]
     refine⟨W3.heap.size,rfl,hO.out.size,?_⟩;exact(Blk.new W3 199 #[.int .i64 1,.int .i64 0]).grown hD (λe=>by injection e with e;omega)
 clear gf;have hC:=hid (hC.out.trans (if_neg h0));have go:¬(s:Int)=0:=by omega
 have Hg:(n3&&& f&&& 8 != 0)=true:=by
  have h:=HP.out;unfold hasF at h
  rwa [HQ.out.2.2.1]at h
 obtain⟨e4,Hh⟩:∃b,(n3&&& f&&& 4 != 0)=b:=⟨_,rfl⟩;obtain⟨e32,hJ⟩:∃b,(n3&&& f&&& 32 != 0)=b:=⟨_,rfl⟩;obtain⟨e1,Hi⟩:∃b,(n3&&& f&&& 1 != 0)=b:=⟨_,rfl⟩;have Hj:=hid (he.out 4 (by omega));have Hl:=hid (he.out 8 (by omega));have hL:=hid (he.out 32 (by omega));have Hm:=hid (he.out 1 (by omega));rw[Hh]at Hj;rw[Hg]at Hl;rw[hJ]at hL;rw[Hi]at Hm;have HD:=hid (show info0 t f s={typ:=t,stream:=s,flags:=0,endHeads:=e4,padded:=true,prio:=e32,ack:=false,endd:=e1}by
  obtain⟨r1,_,r3,r4,_⟩:=HQ.out;unfold info0 hasF;rw[r1,r3,Hh,Hg,hJ,Hi,if_pos (of_decide_eq_true r4)];simp)
 clear Hg Hh hJ Hi;have gq:∀(fn:Fn) (first cap:Array Value) (w:World),(Instr.makeFunc fn first cap).run Tryz.prog w= .ok (.func fn first cap) w:=λ_ _ _ _=>rfl;have g3':W3.cell? ⟨gi,3,none⟩=some (.bool false):=HI.out.cell 3;have g4:W3.cell? ⟨gi,4,none⟩=some (.bool false):=HI.out.cell 4;have g6':W3.cell? ⟨gi,6,none⟩=some (.bool false):=HI.out.cell 6;have g7:W3.cell? ⟨gi,7,none⟩=some (.bool false):=HI.out.cell 7;have f3:=HI.out.frozen 3;have f4:=HI.out.frozen 4;have f6:=HI.out.frozen 6;have f7:=HI.out.frozen 7;have n1:¬W.heap.size=gi:=by have:=hQ.out;omega
 have n2:¬r4=gi:=by have:=hQ.out;omega
 have n1':¬gi=W.heap.size:=by have:=hQ.out;omega
 have n2':¬gi=r4:=by have:=hQ.out;omega
 have hF:=hid (show OpF W W3 gi r4 g3 g6 g8 _ _ _ from⟨HI.out,hP.out,hd.out,hA.out,HX.out,hO.out,hQ.out⟩);go_wp2_with fail;refine(Hj.out _ (hF.out.r.cell 2) (hF.out.f.cell 1)).mono ?_;rintro e w' ⟨rfl,hw⟩;subst w';go_wp2_with fail;refine(Hl.out _ (hF.out.r.cell 2) (hF.out.f.cell 1)).mono ?_;rintro e w' ⟨rfl,hw⟩;subst w';go_wp2_with fail;refine(hL.out _ (hF.out.r.cell 2) (hF.out.f.cell 1)).mono ?_;rintro e w' ⟨rfl,hw⟩;subst w';have H3:=hid (((hF.out.put 4 (.bool e4)).put 6 (.bool true)).put 7 (.bool e32));go_wp2_with fail;refine(Hm.out _ (H3.out.r.cell 2) (H3.out.f.cell 1)).mono ?_;rintro e w' ⟨rfl,hw⟩;subst w';have h7:=hid (H3.out.put 3 (.bool e1));go_upto_region 12 with fail;clear hF H3 c0 c1 c2 c3 q0 q1 q2 q3 g3' g4 g6' g7 f3 f4 f6 f7 HI hP hd hA HX hO Hm Hj Hl hL he;generalize (((W3.setCell ⟨gi,4,none⟩ (.bool e4)).setCell ⟨gi,6,none⟩ (.bool true)).setCell ⟨gi,7,none⟩ (.bool e32)).setCell ⟨gi,3,none⟩ (.bool e1)=X at*
 have c3:X.cell? ⟨W.heap.size,3,none⟩=some (.slice A n c):=h7.out.f.cell 3;have gx6:X.cell? ⟨gi,6,none⟩=some (.bool true):=h7.out.i.cell 6;have g9:X.cell? ⟨gi,9,none⟩=some (.int .i64 0):=h7.out.i.cell 9;have f9:=h7.out.i.frozen 9;have r3:X.cell? ⟨r4,3,none⟩=some (.func (.func K1) #[] cap1):=h7.out.r.cell 3;have Hn:=(HC.out.more HB.out).below h7.out.b;rcases l with _|⟨x,q⟩
 · obtain rfl:n=0:=HN.out.2.2.symm
   have hh:=hid hC.out;go_wp2_with fail;refine(fault_any 6 0 _).mono ?_;rintro e W4 ⟨rfl,hw⟩;subst W4;go_wp2_with (first
    |(refine wpList_rowPut _ rfl (.tmp 2) (.tmp 71) 91 rfl (W.heap.size+1) 91 (infC {} (.slice none 0 0) (.slice none 0 0)) (infC {} (.slice none 0 0) (.slice none 0 0)) rfl rfl (h7.out.z.alloc _) infSize rfl (infC_one _ _ _ _ _ _ _) ?_
      intro W4 hX hD)
    |fail)
   refine bodyPost_ret (results_open _ _ (W.heap.size+1) {} _ _ _ rfl rfl hX) rfl ⟨?_,?_⟩
   · exact(h7.out.b.alloc h7.out.b.size _).grown hD (by have:=h7.out.b.size;simp;omega) (λg e=>by injection e with e;omega)
   · rw[hh.out]
     refine⟨X.heap.size,rfl,h7.out.b.size,?_⟩;exact(Blk.new X 199 #[.int .i64 6,.int .i64 0]).grown hD (λe=>by injection e with e;have:=h7.out.z.lt;omega)
 have hl:q.length+1=n:=HN.out.2.2;have i1:(0:Int)<(n:Int):=by omega
 have k1:((n:Int)==0)=false:=by simp;omega
 have k1':((n:Int)=0)=False:=by simp;omega
 have h9:=hid (h9.out x q);obtain⟨ad,rfl,H0,Ho⟩:=Hn.2 (by omega);have gg:X.cell? ad=some (.int .u8 x.toNat):=by
  have h:=Ho 0 (by omega);rw[show ad.add 0=ad by cases ad;rfl]at h;exact h
 obtain⟨p,hp⟩:∃p,x.toNat=p:=⟨_,rfl⟩;have hb:p<=255:=by have:=x.toNat_lt;omega
 rw[hp]at gg;have h5:=hid (h7.out.put 9 (.int .i64 (p:Nat)));have k5:=(wnat p hb).1;have k4:=(wnat p hb).2;by_cases hR:n<=p
 · have hh:=hid (show opn t f s (x::q)= .error (1,0)by rw[hC.out];exact if_pos (by rw[hp];exact Nat.le_trans (Nat.le_of_eq hl) hR))
   have k2:((n:Int)<=(p:Int))=True:=by simp;omega
   have k2':(n<=p)=True:=by simp;omega
   clear hR hp hb H0 Ho;go_wp2_with fail;generalize X.setCell ⟨gi,9,none⟩ (.int .i64 (p:Nat))=Y at*
   refine(fault_any 1 0 _).mono ?_;rintro e W4 ⟨rfl,hw⟩;subst W4;go_wp2_with (first
    |(refine wpList_rowPut _ rfl (.tmp 2) (.tmp 83) 91 rfl (W.heap.size+1) 91 (infC {} (.slice none 0 0) (.slice none 0 0)) (infC {} (.slice none 0 0) (.slice none 0 0)) rfl rfl (h5.out.z.alloc _) infSize rfl (infC_one _ _ _ _ _ _ _) ?_
      intro W4 hX hD)
    |fail)
   refine bodyPost_ret (results_open _ _ (W.heap.size+1) {} _ _ _ rfl rfl hX) rfl ⟨?_,?_⟩
   · exact(h5.out.b.alloc h5.out.b.size _).grown hD (by have:=h5.out.b.size;simp;omega) (λg e=>by injection e with e;omega)
   · rw[hh.out]
     refine⟨Y.heap.size,rfl,h5.out.b.size,?_⟩;exact(Blk.new Y 199 #[.int .i64 1,.int .i64 0]).grown hD (λe=>by injection e with e;have:=h5.out.z.lt;omega)
 have hR:p<n:=by omega
 have hC:=hid (show opn t f s (x::q)=rd ({info0 t f s with pad:=x.toNat}:Inf) (q.take (q.length-x.toNat))by rw[hC.out];exact if_neg (by rw[hp];show¬q.length+1<=p;omega));obtain⟨u,hu⟩:∃u,n-p-1=u:=⟨_,rfl⟩;obtain⟨A',g0,gp⟩:=cut_subZ (P:=Tryz.prog) (t:=22) (k:=1) (u:=u) byteP Hn (by omega) HN.out.1 1 ((n:Int)-(p:Int)) rfl (by omega);have gh:=hid g0;have k2:((n:Int)<=(p:Int))=False:=by simp;omega
 have k2':(n<=p)=False:=by simp;omega
 have hG:=hid (show x.toNat=p/\n-p-1=u/\p<n from⟨hp,hu,hR⟩);have gj:u<=1000000000000:=by have:=HN.out.2.1;omega
 have k3:=wsub n p hR HN.out.2.1;clear Hn Ho H0 hp hu hR g0 hb gj;have g1:Blk (X.setCell ⟨gi,9,none⟩ (.int .i64 (p:Nat))) gi 91 (infC ({info0 t f s with pad:=p}:Inf) (.slice none 0 0) (.slice none 0 0)):=by rw[HD.out];exact h5.out.i
 have H1:Rd (X.setCell ⟨gi,9,none⟩ (.int .i64 (p:Nat))) W.heap.size A' u (q.take u):=gh.out.keep λad2 g2=>World.cell?_of_block (h5.out.b.block _ g2 |>.trans (h7.out.b.block _ g2).symm);have hS:q.take (q.length-p)=q.take u:=by congr 1;have:=hG.out;have:q.length+1=n:=HN.out.2.2;omega
 obtain⟨K,cap,hK,hE,hj⟩:=h9.out _ gi g3 g6 g8 A' u (c-1) h5.out.b (by rw[hG.out.1];exact g1) (by have:=h5.out.n;omega) (by rw[hG.out.1,hS];exact H1) (by have:=hG.out;have:=HN.out;omega) (by have:=hG.out;have:=HN.out;omega);rw[hG.out.1,hS]at hj;have gk:=HQ.out.2.2.2.2.symm.trans hK;injection gk with Hp _ gl
 injection Hp with Hp
 subst Hp gl;have hE:∀args w,(callFunc K1 args).run Tryz.prog w= .ok (.enter K1 args) w:=hE;have hI:=hid hj;have Hq:=hid h5.out.b.size;clear hj hK g1 H1 hS;go_wp2_with fail;generalize X.setCell ⟨gi,9,none⟩ (.int .i64 (p:Nat))=Y at*
 refine hI.out.mono ?_;intro e w' h;obtain⟨hg,hm⟩:=h;have g5:=hid (h5.out.z.grown hg (λe=>by injection e with e;have:=h5.out.n;omega));have H4:=hid (h5.out.b.grown hg h5.out.b.size (λg e=>by injection e with e;have:=h5.out.n;omega));have hS:q.take (q.length-x.toNat)=q.take u:=by congr 1;have:=hG.out;have:q.length+1=n:=HN.out.2.2;omega
 have Hs:=hC.out;rw[hS,hG.out.1]at Hs;have ga:=hid Hs;have Ht:=hid h5.out.z.lt;clear hg hI h9 hS Hs c3 gx6 g9 r3 f9;cases hT:rd ({info0 t f s with pad:=p}:Inf) (q.take u)with
 |ok j=>
  rw[hT]at hm;obtain⟨rfl,sv,dv,gb,Hu,Hv⟩:=hm;obtain⟨A5,c5,rfl,_,_⟩:=Hu.form;obtain⟨A6,c6,rfl,_,_,_⟩:=Hv.form;have gm:=hid gb;have gc:=hid Hu;have gd:=hid Hv;have Hx:=hid hT;clear gb Hu Hv hT;go_wp2_with (first
   |(refine wpList_rowGet _ rfl (.tmp 6) 91 rfl gi 91 _ rfl gm.out _ Tryz.underlying91 rfl infSize ?_)
   |(refine wpList_rowPut _ rfl (.tmp 2) (.tmp 100) 91 rfl (W.heap.size+1) 91 (infC {} (.slice none 0 0) (.slice none 0 0)) _ rfl rfl g5.out infSize rfl (infC_one _ _ _ _ _ _ _) ?_
     intro W5 Hy hU)
   |fail)
  refine bodyPost_ret (results_open _ _ (W.heap.size+1) j _ _ _ rfl rfl Hy) rfl ⟨H4.out.grown hU H4.out.size (λg e=>by injection e with e;omega),?_⟩;rw[ga.out,Hx.out];refine⟨_,_,rfl,ew_base (gc.out.grown hU (.inr λe=>?_)) Hq.out,(gd.out.grown hU (.inr λe=>?_)).base Hq.out⟩
  · have h1:=(gc.out.lt _ e).1
    have h2:=Ht.out;omega
  · have h1:=(gd.out.lt e).2
    have h2:=Ht.out;omega
 |error x=>
  rw[hT]at hm;obtain⟨a,rfl,ha,ge⟩:=hm;have Hx:=hid hT;have gn:=hid ge;have HA:=hid ha;clear hT ge ha;go_wp2_with (first
   |(refine wpList_rowPut _ rfl (.tmp 2) (.tmp 98) 91 rfl (W.heap.size+1) 91 (infC {} (.slice none 0 0) (.slice none 0 0)) (infC {} (.slice none 0 0) (.slice none 0 0)) rfl rfl g5.out infSize rfl (infC_one _ _ _ _ _ _ _) ?_
     intro W5 Hy hU)
   |fail)
  refine bodyPost_ret (results_open _ _ (W.heap.size+1) {} _ _ _ rfl rfl Hy) rfl ⟨H4.out.grown hU H4.out.size (λg e=>by injection e with e;omega),?_⟩;rw[ga.out,Hx.out];exact⟨a,rfl,Nat.le_trans Hq.out HA.out,gn.out.grown hU (λe=>by injection e with e;have:=HA.out;have:=Ht.out;omega)⟩
end Go.Proofs.YtkpppjhbmnfmkaaGreatDoor
end

section
namespace Go.Proofs.YtkpppjhbmnfmkaaGreatDoor
open Go.RowKit Go.Own Go.Own.Fr Go.Own.Im
theorem enter_prio:Enters Tryz.prog 181:=enters_of Tryz.func181 (by kernel_rfl) rfl
theorem enter_push:Enters Tryz.prog 187:=enters_of Tryz.func187 (by kernel_rfl) rfl
theorem hasF_pads {t f:Nat} (h:hasF t f 8=true):t=0\/t=1\/t=5:=by
 have h':(rowOf t).2.2&&& 8≠0:=by
  intro e;unfold hasF at h;rw[Nat.and_assoc,Nat.and_comm f 8,<-Nat.and_assoc,e,Nat.zero_and]at h;exact absurd h (by decide)
 have hc:t=0\/t=1\/t=2\/t=3\/t=4\/t=5\/t=6\/t=7\/t=8\/t=9\/9<t:=by omega
 rcases hc with rfl|rfl|rfl|rfl|rfl|rfl|rfl|rfl|rfl|rfl|h9
 all_goals first
  |exact .inl rfl
  |exact .inr (.inl rfl)
  |exact .inr (.inr rfl)
  |exact absurd rfl h'
  |(exfalso;apply h';unfold rowOf;split<;>first|omega|rfl)
theorem rdHeadsA (g:Nat) (i:Inf) (A:Option Addr) (n c B:Nat) (l:List UInt8) (W:World) (hb:Blk W g 91 (infC i (.slice none 0 0) (.slice none 0 0))) (hr:Rd W B A n l) (hB:B<=W.heap.size) (hc:n<=c) (hn:n<=1000000000) (ht:i.typ=1) (hs:i.sets=[]):
 Calls Tryz.prog 177 #[.pointer (some ⟨g,0,none⟩),.slice A n c] W (RdPost W g i l):=by
 cases hp:i.prio
 · exact rdHeads g i A n c B l W hb hr hB (by omega) ht hp hs
 · exact rdHeadsP g i A n c B l W hb hr hB hc hn ht hp hs
theorem open_all (t f s:Nat) (A:Option Addr) (n c B:Nat) (l:List UInt8) (W:World) (hr:Rd W B A n l) (hB:B<=W.heap.size) (hc:n<=c) (hn:n<=1000000) (ht:t<=255) (hf:f<=255) (hs:s<=2147483647):
 Calls Tryz.prog 104 #[.agg #[.int .i64 (t:Nat),.int .i64 (f:Nat),.int .i64 (s:Nat),.slice A n c]] W (OpPost W t f s l):=by
 cases hp:hasF t f 8
 · by_cases h1:t=1
   · subst h1
     refine open_any 1 f s A n c B l W hr hB ht hf hs hp λW' g g3 g6 g8 hb hE hI hg=>?_;exact⟨_,#[],rfl,enter_heads,rdHeadsA g (info0 1 f s) A n c W.heap.size l W' hI ((hr.more hB).below hb) hb.size hc (by omega) rfl rfl⟩
   by_cases h2:t=2
   · subst h2
     refine open_any 2 f s A n c B l W hr hB ht hf hs hp λW' g g3 g6 g8 hb hE hI hg=>?_;exact⟨_,#[],rfl,enter_prio,rdPrio g (info0 2 f s) A n c W.heap.size l W' hI ((hr.more hB).below hb) hb.size hc rfl ⟨rfl,rfl⟩⟩
   by_cases h5:t=5
   · subst h5
     refine open_any 5 f s A n c B l W hr hB ht hf hs hp λW' g g3 g6 g8 hb hE hI hg=>?_;exact⟨_,#[],rfl,enter_push,rdPush g (info0 5 f s) A n c W.heap.size l W' hI ((hr.more hB).below hb) hb.size hc (by omega) rfl rfl⟩
   exact open_more t f s A n c B l W hr hB hc hn ht hf hs hp ⟨h2,h5,λe=>absurd e h1⟩
 · refine open_padx t f s (hasF_pads hp) A n c B l W hr hB hc hn hf hp hs λx q W' g g3 g6 g8 A' n' c' hb hI hg h0 h3 h4=>?_
   rcases hasF_pads hp with rfl|rfl|rfl
   · exact⟨_,#[],rfl,enter_rest,rest_rd g _ A' n' c' W.heap.size _ W' hI h0 hb.size (by omega) rfl rfl⟩
   · exact⟨_,#[],rfl,enter_heads,rdHeadsA g _ A' n' c' W.heap.size _ W' hI h0 hb.size h3 (by omega) rfl rfl⟩
   · exact⟨_,#[],rfl,enter_push,rdPush g _ A' n' c' W.heap.size _ W' hI h0 hb.size h3 (by omega) rfl rfl⟩
end Go.Proofs.YtkpppjhbmnfmkaaGreatDoor
end

section
namespace Go.Proofs.YtkpppjhbmnfmkaaGreatDoor
open Go.RowKit Go.Own Go.Own.Fr Go.Own.Im
attribute [local go_sem] Oper.semAt_some
end Go.Proofs.YtkpppjhbmnfmkaaGreatDoor
end

section
namespace Go.Proofs.YtkpppjhbmnfmkaaGreatDoor
open Go.RowKit Go.Own Go.Own.Fr Go.Own.Im
attribute [local go_sem] Oper.semAt_some
theorem ten (t:Nat):t=0\/t=1\/t=2\/t=3\/t=4\/t=5\/t=6\/t=7\/t=8\/t=9\/9<t:=by omega
def strW (t:Nat):Int:=if(rowOf t).1=false then 1 else if(rowOf t).2.1=false then 0 else -1
structure SzF (W X:World) (t f s:Nat) (v:Value) (z:Array Value):Prop where
 f:Blk X W.heap.size 24 #[.int .i64 (t:Nat),.int .i64 (f:Nat),.int .i64 (s:Nat),v]
 z:Blk X (W.heap.size+1) 98 z
 b:Below W.heap.size W X
end Go.Proofs.YtkpppjhbmnfmkaaGreatDoor
end
