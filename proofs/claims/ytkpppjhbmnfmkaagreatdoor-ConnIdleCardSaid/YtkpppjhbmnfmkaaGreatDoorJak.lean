/-
  
  
  
-/
import Derived.Test.YtkpppjhbmnfmkaaGreatDoorJai
import Derived.Test.YtkpppjhbmnfmkaaGreatDoorJaj
import Derived.Test.YtkpppjhbmnfmkaaGreatDoorJag
import Derived.Test.YtkpppjhbmnfmkaaGreatDoorJah
import Derived.Test.YtkpppjhbmnfmkaaGreatDoorJac
set_option linter.unusedSimpArgs false
set_option linter.unusedVariables false
section
set_option maxHeartbeats 8000000
set_option maxRecDepth 100000
namespace Go.Proofs.YtkpppjhbmnfmkaaGreatDoor
open Lib (hid)
open Go.RowKit Go.Own Go.Own.Fr Go.Own.Im
attribute [local go_sem] Oper.semAt_some
theorem enter_sets:Enters Tryz.prog 185:=enters_of Tryz.func185 (by kernel_rfl) rfl
theorem open_more (t f s:Nat) (A:Option Addr) (n c B:Nat) (l:List UInt8) (W:World) (hr:Rd W B A n l) (hB:B<=W.heap.size) (hc:n<=c) (hn:n<=1000000) (ht:t<=255) (hf:f<=255) (hs:s<=2147483647) (hp:hasF t f 8=false)
 (hk:t≠2/\t≠5/\(t=1->hasF t f 32=false)):
 Calls Tryz.prog 104 #[.agg #[.int .i64 (t:Nat),.int .i64 (f:Nat),.int .i64 (s:Nat),.slice A n c]] W (OpPost W t f s l):=by
 by_cases h4:t=4
 · subst h4
   refine open_any 4 f s A n c B l W hr hB ht hf hs hp λW' g g3 g6 g8 hb hE hI hg=>?_;exact⟨_,#[],rfl,enter_sets,rdSets g (info0 4 f s) A n c W.heap.size l W' hI ((hr.more hB).below hb) hb.size hc hn rfl ⟨rfl,rfl⟩⟩
 · exact open_plain t f s A n c B l W hr hB hc (by omega) ht hf hs hp ⟨hk.1,h4,hk.2.1,hk.2.2⟩
theorem results_build (tmps:Array Value) (w:World) (g:Nat) (a b c d v:Value) (ht:tmps[2]?=some (.pointer (some ⟨g,0,none⟩))) (h3:tmps[3]?=some v) (hb:Blk w g 24 #[a,b,c,d]):
 (results Tryz.f66 tmps).run Tryz.prog w= .ok (.tuple #[.agg #[a,b,c,d],v]) w:=by
 have c0:w.cell? ⟨g,0,none⟩=some a:=hb.cell 0;have c1:w.cell? ⟨g,1,none⟩=some b:=hb.cell 1;have c2:w.cell? ⟨g,2,none⟩=some c:=hb.cell 2;have c3:w.cell? ⟨g,3,none⟩=some d:=hb.cell 3;simp[results,Tryz.results66,go_sem,ht,h3,c0,c1,c2,c3]
theorem load_row {i:Inf} {g:Nat} {A A2:Option Addr} {n n2 c c2:Nat} {w:World} (h:Blk w g 91 (infC i (.slice A n c) (.slice A2 n2 c2))):(Instr.loadAt 91 (.pointer (some ⟨g,0,none⟩))).run Tryz.prog w= .ok (.agg (infC i (.slice A n c) (.slice A2 n2 c2))) w:=
 run_loadAt_row w g _ _ _ h _ Tryz.underlying91 rfl infSize
def BuPost (W:World) (i:Inf) (e:Ending) (w':World):Prop:=
 ∃A c',e= .returned (.tuple #[.agg #[.int .i64 (i.typ:Nat),.int .i64 (flg i:Nat),.int .i64 (i.stream:Nat),.slice A (pay i).length c'],.nilIface])/\Ow w' W.heap.size 5 (.slice A (pay i).length c') (pay i).length (pay i)/\Below W.heap.size W w'
def WrPost (W:World) (p:List UInt8) (e:Ending) (w':World):Prop:=∃A m c,e= .returned (.slice A m c)/\Rd w' w'.heap.size A m p/\Below W.heap.size W w'
theorem build_any (i:Inf) (S:Option Addr) (d:Nat) (A:Option Addr) (n c B:Nat) (K:Nat) (W:World) (hf:FitI i) (hs:SetR W (.slice S i.sets.length d) i.sets) (hr:Rd W B A n i.data) (hB:B<=W.heap.size)
 (hp:i.padded=false) (hk:wrV i.typ= .func (.func K) #[] #[]) (hE:Enters Tryz.prog K)
 (hw:∀W',Below W.heap.size W W'->Calls Tryz.prog K #[.agg (infC i (.slice S i.sets.length d) (.slice A n c))] W' (WrPost W' (pay i))) (Hg:(pay i).length<=1000000)
 (ho:opn i.typ (flg i) i.stream (pay i)= .ok i) (Hh:flg i<=255) (Hi:hasF i.typ (flg i) 8=false) (Hj:i.typ≠2/\i.typ≠5/\(i.typ=1->hasF i.typ (flg i) 32=false)):
 Calls Tryz.prog 66 #[.agg (infC i (.slice S i.sets.length d) (.slice A n c))] W (BuPost W i):=by
 have hn:=hr.1;subst hn;have hE:∀args w,(callFunc K args).run Tryz.prog w= .ok (.enter K args) w:=hE;have Hl:=(Blk.new W 91 (infC i (.slice S i.sets.length d) (.slice A i.data.length c))).alloc (.cells #[.int .i64 0,.int .i64 0,.int .i64 0,.slice none 0 0] 24);have Hm:Blk ((W.alloc (.cells (infC i (.slice S i.sets.length d) (.slice A i.data.length c)) 91)).alloc (.cells #[.int .i64 0,.int .i64 0,.int .i64 0,.slice none 0 0] 24)) (W.heap.size+1) 24 #[.int .i64 0,.int .i64 0,.int .i64 0,.slice none 0 0]:=by
  have h:=Blk.new (W.alloc (.cells (infC i (.slice S i.sets.length d) (.slice A i.data.length c)) 91)) 24 #[.int .i64 0,.int .i64 0,.int .i64 0,.slice none 0 0];rw[show(W.alloc (.cells (infC i (.slice S i.sets.length d) (.slice A i.data.length c)) 91)).heap.size=W.heap.size+1 by simp]at h;exact h
 have Hn:Below W.heap.size W ((W.alloc (.cells (infC i (.slice S i.sets.length d) (.slice A i.data.length c)) 91)).alloc (.cells #[.int .i64 0,.int .i64 0,.int .i64 0,.slice none 0 0] 24)):=((Below.refl _ _).alloc (Nat.le_refl _) _).alloc (by simp) _;have hQ:=hid Hl;have hX:=hid Hm;have hR:=hid Hn;have Ho:=hid hs;have HR:=hid (hr.more hB);have HF:=hid hf;have HW:=hid hw;have HP:=hid (show hasF i.typ (flg i) 8=false/\(i.typ≠2/\i.typ≠5/\(i.typ=1->hasF i.typ (flg i) 32=false))/\flg i<=255/\opn i.typ (flg i) i.stream (pay i)= .ok i/\(pay i).length<=1000000/\i.padded=false/\wrV i.typ= .func (.func K) #[] #[]from⟨Hi,Hj,Hh,ho,Hg,hp,hk⟩);clear Hl Hm Hn hs hr hf hw Hi Hj Hh ho Hg hp hk hB;go_enter Tryz.func66,Tryz.ntmps66;go_upto_region 1 with fail;generalize (W.alloc (.cells (infC i (.slice S i.sets.length d) (.slice A i.data.length c)) 91)).alloc (.cells #[.int .i64 0,.int .i64 0,.int .i64 0,.slice none 0 0] 24)=W1 at*
 go_wp2_with (first
  |(refine wpList_rowGet _ rfl (.tmp 1) 91 rfl W.heap.size 91 _ rfl hQ.out _ Tryz.underlying91 rfl infSize ?_)
  |fail)
 refine(fit_any i (.slice S i.sets.length d) (.slice A i.data.length c) W1 HF.out (Ho.out.below hR.out)).mono ?_;rintro e W2 ⟨rfl,hb⟩;have hY:=hid (hR.out.trans (hb.mono hR.out.size));have h5:=hid (hQ.out.below hb hQ.out.lt);have hd:=hid (hX.out.below hb hX.out.lt);clear hb hQ hX hR;have c0:W2.cell? ⟨W.heap.size,0,none⟩=some (.int .i64 (i.typ:Nat)):=h5.out.cell 0;go_wp2_with fail;refine(sort_any i.typ W2 HF.out.typ).mono ?_;rintro e W3 ⟨g3,g6,g8,rfl,_,hb⟩;obtain⟨b1,Hp⟩:∃b,(rowOf i.typ).1=b:=⟨_,rfl⟩;obtain⟨b2,Hq⟩:∃b,(rowOf i.typ).2.1=b:=⟨_,rfl⟩;obtain⟨n3,Hs⟩:∃b,(rowOf i.typ).2.2=b:=⟨_,rfl⟩;obtain⟨K1,cap1,Ht⟩:=rdV_form g3 g6 g8 i.typ;rw[Hp,Hq,Hs,Ht,HP.out.2.2.2.2.2.2];clear Hp Hq Hs Ht c0;have hZ:=hid (hY.out.trans (hb.mono hY.out.size));have hu:=hid (h5.out.below hb h5.out.lt);have hA:=hid (hd.out.below hb hd.out.lt);clear hb h5 hd hY;go_upto_region 4 with fail;have hS:=hid (hZ.out.alloc hZ.out.size (.cells #[.bool b1,.bool b2,.int .i64 (n3:Nat),.func (.func K1) #[] cap1,.func (.func K) #[] #[]] 184));have h6:=hid (hu.out.alloc (.cells #[.bool b1,.bool b2,.int .i64 (n3:Nat),.func (.func K1) #[] cap1,.func (.func K) #[] #[]] 184));have he:=hid (hA.out.alloc (.cells #[.bool b1,.bool b2,.int .i64 (n3:Nat),.func (.func K1) #[] cap1,.func (.func K) #[] #[]] 184));have hN:=Blk.new W3 184 #[.bool b1,.bool b2,.int .i64 (n3:Nat),.func (.func K1) #[] cap1,.func (.func K) #[] #[]];generalize W3.alloc (.cells #[.bool b1,.bool b2,.int .i64 (n3:Nat),.func (.func K1) #[] cap1,.func (.func K) #[] #[]] 184)=W4 at*
 have d4:W4.cell? ⟨W3.heap.size,4,none⟩=some (.func (.func K) #[] #[]):=hN.cell 4;clear hN hu hA hZ;go_wp2_with (first
  |(refine wpList_rowGet _ rfl (.tmp 1) 91 rfl W.heap.size 91 _ rfl h6.out _ Tryz.underlying91 rfl infSize ?_)
  |fail)
 refine(HW.out W4 hS.out).mono ?_;rintro e W5 ⟨A5,m5,c5,rfl,H0,hb⟩;have Hu:=hid H0;have hT:=hid (hS.out.trans (hb.mono hS.out.size));have hh:=hid (h6.out.below hb h6.out.lt);have h7:=hid (he.out.below hb he.out.lt);obtain rfl:=H0.1;clear hb H0 d4 h6 he hS;go_wp2_with fail;refine(fcopied_any A5 _ c5 (pay i) W5 W5.heap.size Hu.out (Nat.le_refl _) (by have:=HP.out.2.2.2.2.1;omega)).mono ?_;rintro e W6 ⟨rfl,Hv,hb⟩;have H1:=hid Hv;have H2:=hid (hT.out.trans (hb.mono hT.out.size));have h0:=hid (hh.out.below hb hh.out.lt);have hi:=hid (h7.out.below hb h7.out.lt);have HB:=hid hT.out.size;have Ha:=hid (show W.heap.size+1<W5.heap.size from h7.out.lt);clear hb Hv hh h7 hT Hu;have c6:W6.cell? ⟨W.heap.size,6,none⟩=some (.bool i.padded):=h0.out.cell 6;rw[HP.out.2.2.2.2.2.1]at c6;generalize HC:W5.heap.size=g5 at*
 clear HC;go_upto_region 7 with fail;clear c6;have hU:=hid (show Blk (W6.drew.alloc (.cells #[.int .i64 0,.int .i64 0,.int .i64 0,.slice none 0 0] 24)) W.heap.size 91 (infC i (.slice S i.sets.length d) (.slice A i.data.length c))from Blk.alloc (w:=W6.drew) h0.out _);have H3:=hid (show Blk (W6.drew.alloc (.cells #[.int .i64 0,.int .i64 0,.int .i64 0,.slice none 0 0] 24)) W6.heap.size 24 #[.int .i64 0,.int .i64 0,.int .i64 0,.slice none 0 0]from Blk.new W6.drew _ _);have hC:=hid (λ(w7:World) (h:Below W6.drew.heap.size W6.drew w7)=>(show Below W6.heap.size W6 (w7.alloc (.cells #[.int .i64 (i.typ:Nat),.int .i64 (flg i:Nat),.int .i64 (i.stream:Nat),.slice (some ⟨g5,0,none⟩) (pay i).length (pay i).length] 24))from(below_of_drew h).alloc h.size _));have hD:=hid (λ(w7:World) (h:Below (W6.drew.alloc (.cells #[.int .i64 0,.int .i64 0,.int .i64 0,.slice none 0 0] 24)).heap.size (W6.drew.alloc (.cells #[.int .i64 0,.int .i64 0,.int .i64 0,.slice none 0 0] 24)) w7)=>(show Below W6.heap.size W6 w7 from(below_of_drew ((Below.refl _ W6.drew).alloc (Nat.le_refl _) (.cells #[.int .i64 0,.int .i64 0,.int .i64 0,.slice none 0 0] 24))).trans (h.mono (by simp))));have hne:W.heap.size≠W6.heap.size:=λe=>by have:=h0.out.lt;omega
 go_cut [7]from 37 to 44 (λt7 wx=>Hid (∃g7,t7= .pointer (some ⟨g7,0,none⟩)/\Below W6.heap.size W6 wx/\W6.heap.size<=g7/\Blk wx g7 24 #[.int .i64 (i.typ:Nat),.int .i64 (flg i:Nat),.int .i64 (i.stream:Nat),.slice (some ⟨g5,0,none⟩) (pay i).length (pay i).length]))
 case first=>
  as_aux_lemma=>
   refine wp_region_noPanic ?_;refine wp_region_held_drew (S:=(λW'=>Blk W' W.heap.size 91 (infC i (.slice S i.sets.length d) (.slice A i.data.length c)))) (by kernel_rfl) h0.out (λhHeld=>?_);refine tk 0 ?_;refine tk 1 ?_ (v:=.int .i64 (i.typ:Nat)) (hy:=by intro w ht;have H4:w.cell? ⟨W.heap.size,0,none⟩=some (.int .i64 (i.typ:Nat)):=ht.cell 0;go_simp;(first|done|with_reducible rfl));refine tk 2 ?_ (v:=.agg (infC i (.slice S i.sets.length d) (.slice A i.data.length c))) (hy:=by intro w ht;have H4:=load_row ht;simp[execOp];change(Result.andThen (Sem.run _ (Instr.loadAt _ (.pointer (some ⟨W.heap.size,0,none⟩))) w) _)=_;rw[H4];rfl);refine tk 4 ?_;refine tk 5 ?_ (v:=.int .i64 (i.stream:Nat)) (hy:=by intro w ht;have H4:w.cell? ⟨W.heap.size,2,none⟩=some (.int .i64 (i.stream:Nat)):=ht.cell 2;go_simp;(first|done|with_reducible rfl));refine tk 6 ?_;refine tkr2 3 8 (λK hK=>?_) (λK hK=>?_)
   · go_simp
     go_at_call 103;refine(flags_any i (.slice S i.sets.length d) (.slice A i.data.length c) _ HF.out.flags).mono ?_;rintro e w7 ⟨rfl,h9⟩;have h3:=hid (Blk.below (w:=W6.drew) h0.out h9 h0.out.lt);have hV:=hid h9;clear h9;refine hK.out _ _ h3.out (λhHeld2=>?_);clear hHeld;have hHeld:=hHeld2;clear hHeld2 hK K
     (try simp only[Act.put,List.setIfInBounds_toArray,List.set_cons_zero,List.set_cons_succ])
     refine tk 7 ?_;refine tkr 8 (λK hK=>?_);go_simp;refine hK.out _ _ (h3.out.alloc _) (λhHeld2=>?_);clear hHeld;have hHeld:=hHeld2;clear hHeld2 hK K
     (try simp only[Act.put,List.setIfInBounds_toArray,List.set_cons_zero,List.set_cons_succ])
     refine tkr 9 (λK hK=>?_);go_simp;refine hK.out _ _ (h3.out.alloc _) (λhHeld2=>?_);clear hHeld;have hHeld:=hHeld2;clear hHeld2 hK K
     (try simp only[Act.put,List.setIfInBounds_toArray,List.set_cons_zero,List.set_cons_succ])
     refine wpAnyH_done (by kernel_rfl) ?_ _;refine NoPanic.normal ?_;go_wp2_with fail;go_meet;exact hid ⟨_,rfl,hC.out _ hV.out,hV.out.size,Blk.new _ _ _⟩
   · go_simp
     refine hK.out _ _ hU.out (λhHeld2=>?_);clear hHeld;have hHeld:=hHeld2;clear hHeld2 hK K
     (try simp only[Act.put,List.setIfInBounds_toArray,List.set_cons_zero,List.set_cons_succ])
     refine tkr 3 (λK hK=>?_);go_simp;go_at_call 103;refine(flags_any i (.slice S i.sets.length d) (.slice A i.data.length c) _ HF.out.flags).mono ?_;rintro e w7 ⟨rfl,h9⟩;have h3:=hid (hU.out.below h9 hU.out.lt);have hV:=hid h9;have h4:=hid (H3.out.below h9 H3.out.lt);have e0:w7.cell? ⟨W6.heap.size,0,none⟩=_:=h4.out.cell 0;have e1:w7.cell? ⟨W6.heap.size,1,none⟩=_:=h4.out.cell 1;have e2:w7.cell? ⟨W6.heap.size,2,none⟩=_:=h4.out.cell 2;have e3:w7.cell? ⟨W6.heap.size,3,none⟩=_:=h4.out.cell 3;have f0:=h4.out.frozen 0;have f1:=h4.out.frozen 1;have f2:=h4.out.frozen 2;have f3:=h4.out.frozen 3;simp only[List.getElem?_toArray,List.getElem?_cons_zero,List.getElem?_cons_succ]at e0 e1 e2 e3;clear h9;refine hK.out _ _ h3.out (λhHeld2=>?_);clear hHeld;have hHeld:=hHeld2;clear hHeld2 hK K
     (try simp only[Act.put,List.setIfInBounds_toArray,List.set_cons_zero,List.set_cons_succ])
     refine tk 7 ?_;refine tkr 9 (λK hK=>?_);go_simp;refine hK.out _ _ (((((h3.out.far hne _).far hne _).far hne _).far hne _)) (λhHeld2=>?_);clear hHeld;have hHeld:=hHeld2;clear hHeld2 hK K
     (try simp only[Act.put,List.setIfInBounds_toArray,List.set_cons_zero,List.set_cons_succ])
     refine wpAnyH_done (by kernel_rfl) ?_ _;refine NoPanic.normal ?_;go_wp2_with fail;go_meet;exact hid ⟨_,rfl,below_four (hD.out _ hV.out) (Nat.le_refl _) _ _ _ _,Nat.le_refl _,Blk.four_put h4.out rfl _ _ _ _⟩
 case rest=>
  obtain⟨g7,rfl,hb,HD,hq⟩:=hcut.out;have H5:=hid (H2.out.trans (hb.mono H2.out.size));have hj:=hid (h0.out.below hb h0.out.lt);have hl:=hid (hi.out.below hb hi.out.lt);have hW:=hid (H1.out.below hb (λg e=>(H1.out.lt e).1));have h3:=hid hq;have e0:wc.cell? ⟨g7,0,none⟩=_:=hq.cell 0;have e1:wc.cell? ⟨g7,1,none⟩=_:=hq.cell 1;have e2:wc.cell? ⟨g7,2,none⟩=_:=hq.cell 2;have e3:wc.cell? ⟨g7,3,none⟩=_:=hq.cell 3;simp only[List.getElem?_toArray,List.getElem?_cons_zero,List.getElem?_cons_succ]at e0 e1 e2 e3;clear hcut hb HD hq hU H3 hC hD hne h0 hi H2 H1;go_wp2_with fail;refine(open_more i.typ (flg i) i.stream (some ⟨g5,0,none⟩) (pay i).length (pay i).length wc.heap.size (pay i) wc hW.out.rd (Nat.le_refl _) (Nat.le_refl _) HP.out.2.2.2.2.1 HF.out.typ HP.out.2.2.1 HF.out.stream HP.out.1 HP.out.2.1).mono ?_;rintro e W9 ⟨hb,hm⟩;rw[HP.out.2.2.2.1]at hm;obtain⟨sv2,dv2,rfl,H7,H8⟩:=hm;obtain⟨S2,d2,rfl,_,_⟩:=H7.form;obtain⟨A2,c2,rfl,HI,_,_⟩:=H8.form;have Hx:=hid (H5.out.trans (hb.mono H5.out.size));have hF:=hid (hj.out.below hb hj.out.lt);have hG:=hid (hl.out.below hb hl.out.lt);have hH:=hid (h3.out.below hb h3.out.lt);have Hy:=hid (hW.out.below hb (λg e=>(hW.out.lt e).1));have HE:=hid (SetR.of_own H7);have HG:=hid H8.rd;clear hb H7 H8 e0 e1 e2 e3 hj hl h3 hW H5;go_wp2_with (first
   |(refine wpList_rowPut _ rfl (.tmp 8) (.tmp 48) 91 rfl W9.heap.size 91 (infC {} (.slice none 0 0) (.slice none 0 0)) (infC i (.slice S2 i.sets.length d2) (.slice A2 i.data.length c2)) rfl rfl (Blk.new W9 91 _) infSize rfl (infC_one _ _ _ _ _ _ _) ?_
     intro w10 hI hJ;have hc:=(show Below W9.heap.size W9 w10 from((Below.refl W9.heap.size W9).alloc (Nat.le_refl _) (.cells (infC {} (.slice none 0 0) (.slice none 0 0)) 91)).grown hJ (by simp) (λj e=>by injection e with e;omega));have H9:=hid hc;have HH:=hid hI;have Hb:=hid (hF.out.below hc hF.out.lt);have hL:=hid (hG.out.below hc hG.out.lt);have hO:=hid (hH.out.below hc hH.out.lt);have hP:=hid (Hy.out.below hc (λg e=>(Hy.out.lt e).1));have h2:=hid (Hx.out.trans (hc.mono Hx.out.size));clear hI hJ hc)
   |(refine wpList_rowGetW _ rfl (.tmp 8) 91 rfl W9.heap.size 91 _ rfl HH.out _ Tryz.underlying91 rfl infSize ?_)
   |(refine wpList_rowGetW _ rfl (.tmp 1) 91 rfl W.heap.size 91 _ rfl Hb.out _ Tryz.underlying91 rfl infSize ?_)
   |(go_at_call 105
     refine(same_any i (.slice S2 i.sets.length d2) (.slice S i.sets.length d) A2 A i.data.length c2 c W9.heap.size W.heap.size _ (HE.out.below H9.out) (Ho.out.below h2.out) (HG.out.below H9.out) (HR.out.below h2.out) H9.out.size h2.out.size HF.out.few).mono ?_;rintro e W11 ⟨rfl,hb⟩;have h1:=hid (hL.out.below hb hL.out.lt);have h8:=hid (hO.out.below hb hO.out.lt);have Hc:=hid (hP.out.below hb (λg e=>(hP.out.lt e).1));have He:=hid (h2.out.trans (hb.mono h2.out.size));have e0:W11.cell? ⟨g7,0,none⟩=_:=h8.out.cell 0;have e1:W11.cell? ⟨g7,1,none⟩=_:=h8.out.cell 1;have e2:W11.cell? ⟨g7,2,none⟩=_:=h8.out.cell 2;have e3:W11.cell? ⟨g7,3,none⟩=_:=h8.out.cell 3;have k0:W11.cell? ⟨W.heap.size+1,0,none⟩=_:=h1.out.cell 0;have k1:W11.cell? ⟨W.heap.size+1,1,none⟩=_:=h1.out.cell 1;have k2:W11.cell? ⟨W.heap.size+1,2,none⟩=_:=h1.out.cell 2;have k3:W11.cell? ⟨W.heap.size+1,3,none⟩=_:=h1.out.cell 3;have q0:=h1.out.frozen 0;have q1:=h1.out.frozen 1;have q2:=h1.out.frozen 2;have q3:=h1.out.frozen 3;simp only[List.getElem?_toArray,List.getElem?_cons_zero,List.getElem?_cons_succ]at e0 e1 e2 e3 k0 k1 k2 k3;clear hb)
   |fail)
  refine bodyPost_ret (results_build _ _ (W.heap.size+1) _ _ _ _ _ rfl rfl (Blk.four_put h1.out rfl _ _ _ _)) rfl ⟨_,_,rfl,?_,below_four He.out (by omega) _ _ _ _⟩;exact(Hc.out.grown (grown_four W11 (W.heap.size+1) _ _ _ _) (.inr λe=>by have e:some g5=some (W.heap.size+1):=e;injection e with e;have:=Ha.out;omega)).base HB.out
end Go.Proofs.YtkpppjhbmnfmkaaGreatDoor
end

section
set_option maxHeartbeats 16000000
set_option maxRecDepth 100000
namespace Go.Proofs.YtkpppjhbmnfmkaaGreatDoor
open Lib (hid)
open Go.RowKit Go.Own Go.Own.Fr Go.Own.Im
def padO (t f s:Nat):List UInt8->Except (Nat×Nat) Inf
 |[]=>.error (6,0)
 |x::q=>if(x::q).length<=x.toNat then .error (1,0)else rd ({info0 t f s with pad:=x.toNat}:Inf) (q.take (q.length-x.toNat))
theorem opn_padx {t f s:Nat} {l:List UInt8} (h8:hasF t f 8=true) (h1:(rowOf t).1=false) (h2:(rowOf t).2.1=true):opn t f s l=if s=0 then .error (1,0)else padO t f s l:=by
 unfold opn;rw[h1,h2];by_cases h0:s=0
 · simp[h0]
 · rw[if_neg (by simp[h0]),if_neg h0,if_pos h8]
   cases l<;>rfl
theorem open_padx (t f s:Nat) (HG:t=0\/t=1\/t=5) (A:Option Addr) (n c B:Nat) (l:List UInt8) (W:World) (hr:Rd W B A n l) (hB:B<=W.heap.size) (hc:n<=c) (hn:n<=1000000) (hf:f<=255) (h8:hasF t f 8=true) (hs:s<=2147483647)
 (hH:∀(x:UInt8) (q:List UInt8) (W':World) (g g3 g6 g8:Nat) (A':Option Addr) (n' c':Nat),Below W.heap.size W W'->Blk W' g 91 (infC ({info0 t f s with pad:=x.toNat}:Inf) (.slice none 0 0) (.slice none 0 0))->W.heap.size<=g->Rd W' W.heap.size A' n' (q.take (q.length-x.toNat))->n'<=c'->n'<=1000000->
   ∃K cap,rdV g3 g6 g8 t= .func (.func K) #[] cap/\Enters Tryz.prog K/\Calls Tryz.prog K (#[.pointer (some ⟨g,0,none⟩),.slice A' n' c']++cap) W' (RdPost W' g ({info0 t f s with pad:=x.toNat}:Inf) (q.take (q.length-x.toNat)))):
 Calls Tryz.prog 104 #[.agg #[.int .i64 (t:Nat),.int .i64 (f:Nat),.int .i64 (s:Nat),.slice A n c]] W (OpPost W t f s l):=by
 have ht:t<=255:=by omega
 have hl:l.length=n:=hr.1;have ho:(rowOf t).1=false/\(rowOf t).2.1=true/\decide (t<=9)=true:=by rcases HG with rfl|rfl|rfl<;>exact⟨rfl,rfl,rfl⟩
 have hC:=hid (opn_padx (l:=l) (s:=s) h8 ho.1 ho.2.1);have HD:=hid hr;have HB:=hid hB;have HP:=hid h8;have HN:=hid (show _/\_/\_ from⟨hc,hn,hl⟩);have H7:=hid ho;have h9:=hid hH;have HH:=hid (λw=>sort_any t w ht);clear h8 hr hB hc hn hl HG ho hH;go_enter Tryz.func104,Tryz.ntmps104;go_upto_region 1 with fail;obtain⟨W0,HK,HO,HR,H8,HS⟩:=open_start W t f s (.slice A n c);rw[HK];have HT:=hid HO;have HZ:=hid HR;have H9:=hid H8;have Ha:=hid HS;have c0:W0.cell? ⟨W.heap.size,0,none⟩=some (.int .i64 (t:Nat)):=H8.cell 0;clear HK HO HR H8 HS;go_wp2_with fail;refine(HH.out W0).mono ?_;rintro e W1 ⟨g3,g6,g8,rfl,hE,hN⟩;have HE:=hid hE;have hO:=hid hN;clear c0 hE hN;have hZ:=hid (H9.out.below hO.out H9.out.lt);have H0:=hid (Ha.out.below hO.out Ha.out.lt);obtain⟨K1,cap1,Hb⟩:=rdV_form g3 g6 g8 t;obtain⟨K2,HU⟩:=wrV_form t;rw[Hb,HU];obtain⟨b1,hN⟩:∃b,(rowOf t).1=b:=⟨_,rfl⟩;obtain⟨b2,Hc⟩:∃b,(rowOf t).2.1=b:=⟨_,rfl⟩;obtain⟨n3,hW⟩:∃b,(rowOf t).2.2=b:=⟨_,rfl⟩;obtain⟨d9,He⟩:∃b,decide (t<=9)=b:=⟨_,rfl⟩;rw[hN,Hc,hW,He];have HQ:=hid (show(rowOf t).1=b1/\(rowOf t).2.1=b2/\(rowOf t).2.2=n3/\decide (t<=9)=d9/\rdV g3 g6 g8 t= .func (.func K1) #[] cap1 from⟨hN,Hc,hW,He,Hb⟩);clear hN Hc hW He Hb HU;go_upto_region 2 with fail;have h3:=hid (Blk.new W1 184 #[.bool b1,.bool b2,.int .i64 (n3:Nat),.func (.func K1) #[] cap1,.func (.func K2) #[] #[]]);have hX:=hid ((HT.out.trans (hO.out.mono (by have:=HZ.out;omega))).alloc (by have:=hO.out.size;have:=HZ.out;omega) (.cells #[.bool b1,.bool b2,.int .i64 (n3:Nat),.func (.func K1) #[] cap1,.func (.func K2) #[] #[]] 184));have h6:=hid (hZ.out.alloc (.cells #[.bool b1,.bool b2,.int .i64 (n3:Nat),.func (.func K1) #[] cap1,.func (.func K2) #[] #[]] 184));have hq:=hid (H0.out.alloc (.cells #[.bool b1,.bool b2,.int .i64 (n3:Nat),.func (.func K1) #[] cap1,.func (.func K2) #[] #[]] 184));have Hg:=hid (HE.out.below ((Below.refl W1.heap.size W1).alloc (Nat.le_refl _) (.cells #[.bool b1,.bool b2,.int .i64 (n3:Nat),.func (.func K1) #[] cap1,.func (.func K2) #[] #[]] 184)));have H3:=hid (show(W1.alloc (.cells #[.bool b1,.bool b2,.int .i64 (n3:Nat),.func (.func K1) #[] cap1,.func (.func K2) #[] #[]] 184)).heap.size=W1.heap.size+1/\W.heap.size+2<=W1.heap.size by
  refine⟨by simp,?_⟩;have:=hO.out.size;have:=HZ.out;omega)
 generalize W1.alloc (.cells #[.bool b1,.bool b2,.int .i64 (n3:Nat),.func (.func K1) #[] cap1,.func (.func K2) #[] #[]] 184)=W2 at h3 hX h6 hq Hg H3 ⊢;obtain⟨r4,HV⟩:∃r,W1.heap.size=r:=⟨_,rfl⟩;rw[HV]at h3 H3 ⊢;clear HV hO HE hZ H0 H9 Ha HT HZ HH;obtain⟨c0,c1,c2,c3⟩:W2.cell? ⟨W.heap.size,0,none⟩=some (.int .i64 (t:Nat))/\W2.cell? ⟨W.heap.size,1,none⟩=some (.int .i64 (f:Nat))/\W2.cell? ⟨W.heap.size,2,none⟩=some (.int .i64 (s:Nat))/\W2.cell? ⟨W.heap.size,3,none⟩=some (.slice A n c):=⟨h6.out.cell 0,h6.out.cell 1,h6.out.cell 2,h6.out.cell 3⟩;obtain⟨q0,q1,q2,q3⟩:W2.cell? ⟨r4,0,none⟩=some (.bool b1)/\W2.cell? ⟨r4,1,none⟩=some (.bool b2)/\W2.cell? ⟨r4,2,none⟩=some (.int .i64 (n3:Nat))/\W2.cell? ⟨r4,3,none⟩=some (.func (.func K1) #[] cap1):=⟨h3.out.cell 0,h3.out.cell 1,h3.out.cell 2,h3.out.cell 3⟩;go_upto_region 3 with(first
  |(refine wpList_rowPut _ rfl (.tmp 6) (.tmp 20) 91 rfl W2.heap.size 91 (infC {} (.slice none 0 0) (.slice none 0 0)) (infC {typ:=t,stream:=s} (.slice none 0 0) (.slice none 0 0)) rfl rfl (Blk.new W2 91 _) infSize rfl (infC_one _ _ _ _ _ _ _) ?_
    intro W3 HW HX;have HI:=hid HW;have hg:=grown_trans (World.grownBy_alloc W2 (.cells (infC {} (.slice none 0 0) (.slice none 0 0)) 91) (some W2.heap.size)) HX;have hP:=hid (hX.out.grown hg hX.out.size (λg e=>by injection e with e;have:=hX.out.size;omega));have hd:=hid (h6.out.grown hg (λe=>by injection e with e;have:=h6.out.lt;omega));have hA:=hid (hq.out.grown hg (λe=>by injection e with e;have:=hq.out.lt;omega));have hQ:=hid (h3.out.grown hg (λe=>by injection e with e;have:=h3.out.lt;omega));have HY:=hid (show ExS W3 g3 g6 g8 from Hg.out.below ⟨hg.os,hg.tape,hg.output,hg.size,λi hi=>hg.block i hi (λe=>by injection e with e;omega)⟩);have hR:=hid (show W2.heap.size=r4+1/\W.heap.size+2<=r4 from H3.out);clear HW HX hg)
  |fail)
 obtain⟨gi,g0⟩:∃r,W2.heap.size=r:=⟨_,rfl⟩;rw[g0]at HI hR ⊢;clear g0 c0 c1 c2 c3 q0 q1 q2 q3 h6 hq h3 hX Hg H3;obtain⟨c0,c1,c2,c3⟩:W3.cell? ⟨W.heap.size,0,none⟩=some (.int .i64 (t:Nat))/\W3.cell? ⟨W.heap.size,1,none⟩=some (.int .i64 (f:Nat))/\W3.cell? ⟨W.heap.size,2,none⟩=some (.int .i64 (s:Nat))/\W3.cell? ⟨W.heap.size,3,none⟩=some (.slice A n c):=⟨hd.out.cell 0,hd.out.cell 1,hd.out.cell 2,hd.out.cell 3⟩;obtain⟨q0,q1,q2,q3⟩:W3.cell? ⟨r4,0,none⟩=some (.bool b1)/\W3.cell? ⟨r4,1,none⟩=some (.bool b2)/\W3.cell? ⟨r4,2,none⟩=some (.int .i64 (n3:Nat))/\W3.cell? ⟨r4,3,none⟩=some (.func (.func K1) #[] cap1):=⟨hQ.out.cell 0,hQ.out.cell 1,hQ.out.cell 2,hQ.out.cell 3⟩;have hW:n3<=255:=by rw[<-HQ.out.2.2.1];exact rowOf_fl t
 have he:=hid (λ(k:Nat) (hk:k<=255) (W':World) (h4:W'.cell? ⟨r4,2,none⟩=some (.int .i64 (n3:Nat))) (h1:W'.cell? ⟨W.heap.size,1,none⟩=some (.int .i64 (f:Nat)))=>has_any k n3 f r4 W.heap.size W' h4 h1 (by omega) (by omega) (by omega));clear hW;obtain rfl:b1=false:=by rw[<-HQ.out.1];exact H7.out.1
 obtain rfl:b2=true:=by rw[<-HQ.out.2.1];exact H7.out.2.1
 obtain rfl:d9=true:=by rw[<-HQ.out.2.2.2.1];exact H7.out.2.2
 have gg:W.heap.size+1<W3.heap.size:=hA.out.lt;by_cases h0:s=0
 · subst h0
   have hh:=hid (show opn t f 0 l= .error (1,0)by rw[hC.out,if_pos rfl]);go_upto_region 4 with fail;go_wp2_with fail;refine(fault_any 1 0 _).mono ?_;rintro e W4 ⟨rfl,hw⟩;subst W4;go_wp2_with (first
    |(refine wpList_rowPut _ rfl (.tmp 2) (.tmp 39) 91 rfl (W.heap.size+1) 91 (infC {} (.slice none 0 0) (.slice none 0 0)) (infC {} (.slice none 0 0) (.slice none 0 0)) rfl rfl (hA.out.alloc _) infSize rfl (infC_one _ _ _ _ _ _ _) ?_
      intro W4 hY hD)
    |fail)
   refine bodyPost_ret (results_open _ _ (W.heap.size+1) {} _ _ _ rfl rfl hY) rfl ⟨?_,?_⟩
   · exact(hP.out.alloc hP.out.size _).grown hD (by have:=hP.out.size;simp;omega) (λg e=>by injection e with e;omega)
   · rw[hh.out]
     refine⟨W3.heap.size,rfl,hP.out.size,?_⟩;exact(Blk.new W3 199 #[.int .i64 1,.int .i64 0]).grown hD (λe=>by injection e with e;omega)
 clear gg;have hC:=hid (hC.out.trans (if_neg h0));have gp:¬(s:Int)=0:=by omega
 have Hh:(n3&&& f&&& 8 != 0)=true:=by
  have h:=HP.out;unfold hasF at h
  rwa [HQ.out.2.2.1]at h
 obtain⟨e4,Hi⟩:∃b,(n3&&& f&&& 4 != 0)=b:=⟨_,rfl⟩;obtain⟨e32,hJ⟩:∃b,(n3&&& f&&& 32 != 0)=b:=⟨_,rfl⟩;obtain⟨e1,Hj⟩:∃b,(n3&&& f&&& 1 != 0)=b:=⟨_,rfl⟩;have Hl:=hid (he.out 4 (by omega));have Hm:=hid (he.out 8 (by omega));have hL:=hid (he.out 32 (by omega));have Hn:=hid (he.out 1 (by omega));rw[Hi]at Hl;rw[Hh]at Hm;rw[hJ]at hL;rw[Hj]at Hn;have HF:=hid (show info0 t f s={typ:=t,stream:=s,flags:=0,endHeads:=e4,padded:=true,prio:=e32,ack:=false,endd:=e1}by
  obtain⟨r1,_,r3,r4,_⟩:=HQ.out;unfold info0 hasF;rw[r1,r3,Hi,Hh,hJ,Hj,if_pos (of_decide_eq_true r4)];simp)
 clear Hh Hi hJ Hj;have gs:∀(fn:Fn) (first cap:Array Value) (w:World),(Instr.makeFunc fn first cap).run Tryz.prog w= .ok (.func fn first cap) w:=λ_ _ _ _=>rfl;have g3':W3.cell? ⟨gi,3,none⟩=some (.bool false):=HI.out.cell 3;have g4:W3.cell? ⟨gi,4,none⟩=some (.bool false):=HI.out.cell 4;have g6':W3.cell? ⟨gi,6,none⟩=some (.bool false):=HI.out.cell 6;have g7:W3.cell? ⟨gi,7,none⟩=some (.bool false):=HI.out.cell 7;have f3:=HI.out.frozen 3;have f4:=HI.out.frozen 4;have f6:=HI.out.frozen 6;have f7:=HI.out.frozen 7;have n1:¬W.heap.size=gi:=by have:=hR.out;omega
 have n2:¬r4=gi:=by have:=hR.out;omega
 have n1':¬gi=W.heap.size:=by have:=hR.out;omega
 have n2':¬gi=r4:=by have:=hR.out;omega
 have hF:=hid (show OpF W W3 gi r4 g3 g6 g8 _ _ _ from⟨HI.out,hQ.out,hd.out,hA.out,HY.out,hP.out,hR.out⟩);go_wp2_with fail;refine(Hl.out _ (hF.out.r.cell 2) (hF.out.f.cell 1)).mono ?_;rintro e w' ⟨rfl,hw⟩;subst w';go_wp2_with fail;refine(Hm.out _ (hF.out.r.cell 2) (hF.out.f.cell 1)).mono ?_;rintro e w' ⟨rfl,hw⟩;subst w';go_wp2_with fail;refine(hL.out _ (hF.out.r.cell 2) (hF.out.f.cell 1)).mono ?_;rintro e w' ⟨rfl,hw⟩;subst w';have H4:=hid (((hF.out.put 4 (.bool e4)).put 6 (.bool true)).put 7 (.bool e32));go_wp2_with fail;refine(Hn.out _ (H4.out.r.cell 2) (H4.out.f.cell 1)).mono ?_;rintro e w' ⟨rfl,hw⟩;subst w';have h7:=hid (H4.out.put 3 (.bool e1));go_upto_region 12 with fail;clear hF H4 c0 c1 c2 c3 q0 q1 q2 q3 g3' g4 g6' g7 f3 f4 f6 f7 HI hQ hd hA HY hP Hn Hl Hm hL he;generalize (((W3.setCell ⟨gi,4,none⟩ (.bool e4)).setCell ⟨gi,6,none⟩ (.bool true)).setCell ⟨gi,7,none⟩ (.bool e32)).setCell ⟨gi,3,none⟩ (.bool e1)=X at*
 have c3:X.cell? ⟨W.heap.size,3,none⟩=some (.slice A n c):=h7.out.f.cell 3;have gx6:X.cell? ⟨gi,6,none⟩=some (.bool true):=h7.out.i.cell 6;have g9:X.cell? ⟨gi,9,none⟩=some (.int .i64 0):=h7.out.i.cell 9;have f9:=h7.out.i.frozen 9;have r3:X.cell? ⟨r4,3,none⟩=some (.func (.func K1) #[] cap1):=h7.out.r.cell 3;have Ho:=(HD.out.more HB.out).below h7.out.b;rcases l with _|⟨x,q⟩
 · obtain rfl:n=0:=HN.out.2.2.symm
   have hh:=hid hC.out;go_wp2_with fail;refine(fault_any 6 0 _).mono ?_;rintro e W4 ⟨rfl,hw⟩;subst W4;go_wp2_with (first
    |(refine wpList_rowPut _ rfl (.tmp 2) (.tmp 71) 91 rfl (W.heap.size+1) 91 (infC {} (.slice none 0 0) (.slice none 0 0)) (infC {} (.slice none 0 0) (.slice none 0 0)) rfl rfl (h7.out.z.alloc _) infSize rfl (infC_one _ _ _ _ _ _ _) ?_
      intro W4 hY hD)
    |fail)
   refine bodyPost_ret (results_open _ _ (W.heap.size+1) {} _ _ _ rfl rfl hY) rfl ⟨?_,?_⟩
   · exact(h7.out.b.alloc h7.out.b.size _).grown hD (by have:=h7.out.b.size;simp;omega) (λg e=>by injection e with e;omega)
   · rw[hh.out]
     refine⟨X.heap.size,rfl,h7.out.b.size,?_⟩;exact(Blk.new X 199 #[.int .i64 6,.int .i64 0]).grown hD (λe=>by injection e with e;have:=h7.out.z.lt;omega)
 have hl:q.length+1=n:=HN.out.2.2;have i1:(0:Int)<(n:Int):=by omega
 have k1:((n:Int)==0)=false:=by simp;omega
 have k1':((n:Int)=0)=False:=by simp;omega
 have h9:=hid (h9.out x q);obtain⟨ad,rfl,H1,Hp⟩:=Ho.2 (by omega);have gh:X.cell? ad=some (.int .u8 x.toNat):=by
  have h:=Hp 0 (by omega);rw[show ad.add 0=ad by cases ad;rfl]at h;exact h
 obtain⟨p,hp⟩:∃p,x.toNat=p:=⟨_,rfl⟩;have hb:p<=255:=by have:=x.toNat_lt;omega
 rw[hp]at gh;have h5:=hid (h7.out.put 9 (.int .i64 (p:Nat)));have k5:=(wnat p hb).1;have k4:=(wnat p hb).2;by_cases hS:n<=p
 · have hh:=hid (show opn t f s (x::q)= .error (1,0)by rw[hC.out];exact if_pos (by rw[hp];exact Nat.le_trans (Nat.le_of_eq hl) hS))
   have k2:((n:Int)<=(p:Int))=True:=by simp;omega
   have k2':(n<=p)=True:=by simp;omega
   clear hS hp hb H1 Hp;go_wp2_with fail;generalize X.setCell ⟨gi,9,none⟩ (.int .i64 (p:Nat))=Y at*
   refine(fault_any 1 0 _).mono ?_;rintro e W4 ⟨rfl,hw⟩;subst W4;go_wp2_with (first
    |(refine wpList_rowPut _ rfl (.tmp 2) (.tmp 83) 91 rfl (W.heap.size+1) 91 (infC {} (.slice none 0 0) (.slice none 0 0)) (infC {} (.slice none 0 0) (.slice none 0 0)) rfl rfl (h5.out.z.alloc _) infSize rfl (infC_one _ _ _ _ _ _ _) ?_
      intro W4 hY hD)
    |fail)
   refine bodyPost_ret (results_open _ _ (W.heap.size+1) {} _ _ _ rfl rfl hY) rfl ⟨?_,?_⟩
   · exact(h5.out.b.alloc h5.out.b.size _).grown hD (by have:=h5.out.b.size;simp;omega) (λg e=>by injection e with e;omega)
   · rw[hh.out]
     refine⟨Y.heap.size,rfl,h5.out.b.size,?_⟩;exact(Blk.new Y 199 #[.int .i64 1,.int .i64 0]).grown hD (λe=>by injection e with e;have:=h5.out.z.lt;omega)
 have hS:p<n:=by omega
 have hC:=hid (show opn t f s (x::q)=rd ({info0 t f s with pad:=x.toNat}:Inf) (q.take (q.length-x.toNat))by rw[hC.out];exact if_neg (by rw[hp];show¬q.length+1<=p;omega));obtain⟨u,hu⟩:∃u,n-p-1=u:=⟨_,rfl⟩;obtain⟨A',g1,gq⟩:=cut_subZ (P:=Tryz.prog) (t:=22) (k:=1) (u:=u) byteP Ho (by omega) HN.out.1 1 ((n:Int)-(p:Int)) rfl (by omega);have gj:=hid g1;have k2:((n:Int)<=(p:Int))=False:=by simp;omega
 have k2':(n<=p)=False:=by simp;omega
 have hG:=hid (show x.toNat=p/\n-p-1=u/\p<n from⟨hp,hu,hS⟩);have gk:u<=1000000000000:=by have:=HN.out.2.1;omega
 have k3:=wsub n p hS HN.out.2.1;clear Ho Hp H1 hp hu hS g1 hb gk;have g2:Blk (X.setCell ⟨gi,9,none⟩ (.int .i64 (p:Nat))) gi 91 (infC ({info0 t f s with pad:=p}:Inf) (.slice none 0 0) (.slice none 0 0)):=by rw[HF.out];exact h5.out.i
 have H2:Rd (X.setCell ⟨gi,9,none⟩ (.int .i64 (p:Nat))) W.heap.size A' u (q.take u):=gj.out.keep λad2 g5=>World.cell?_of_block (h5.out.b.block _ g5 |>.trans (h7.out.b.block _ g5).symm);have hT:q.take (q.length-p)=q.take u:=by congr 1;have:=hG.out;have:q.length+1=n:=HN.out.2.2;omega
 obtain⟨K,cap,hK,hE,hj⟩:=h9.out _ gi g3 g6 g8 A' u (c-1) h5.out.b (by rw[hG.out.1];exact g2) (by have:=h5.out.n;omega) (by rw[hG.out.1,hT];exact H2) (by have:=hG.out;have:=HN.out;omega) (by have:=hG.out;have:=HN.out;omega);rw[hG.out.1,hT]at hj;have gl:=HQ.out.2.2.2.2.symm.trans hK;injection gl with Hq _ gm
 injection Hq with Hq
 subst Hq gm;have hE:∀args w,(callFunc K1 args).run Tryz.prog w= .ok (.enter K1 args) w:=hE;have hI:=hid hj;have Hs:=hid h5.out.b.size;clear hj hK g2 H2 hT;go_wp2_with fail;generalize X.setCell ⟨gi,9,none⟩ (.int .i64 (p:Nat))=Y at*
 refine hI.out.mono ?_;intro e w' h;obtain⟨hg,hm⟩:=h;have ga:=hid (h5.out.z.grown hg (λe=>by injection e with e;have:=h5.out.n;omega));have H5:=hid (h5.out.b.grown hg h5.out.b.size (λg e=>by injection e with e;have:=h5.out.n;omega));have hT:q.take (q.length-x.toNat)=q.take u:=by congr 1;have:=hG.out;have:q.length+1=n:=HN.out.2.2;omega
 have Ht:=hC.out;rw[hT,hG.out.1]at Ht;have gb:=hid Ht;have Hu:=hid h5.out.z.lt;clear hg hI h9 hT Ht c3 gx6 g9 r3 f9;cases hU:rd ({info0 t f s with pad:=p}:Inf) (q.take u)with
 |ok j=>
  rw[hU]at hm;obtain⟨rfl,sv,dv,gc,Hv,Hx⟩:=hm;obtain⟨A5,c5,rfl,_,_⟩:=Hv.form;obtain⟨A6,c6,rfl,_,_,_⟩:=Hx.form;have gn:=hid gc;have gd:=hid Hv;have ge:=hid Hx;have Hy:=hid hU;clear gc Hv Hx hU;go_wp2_with (first
   |(refine wpList_rowGet _ rfl (.tmp 6) 91 rfl gi 91 _ rfl gn.out _ Tryz.underlying91 rfl infSize ?_)
   |(refine wpList_rowPut _ rfl (.tmp 2) (.tmp 100) 91 rfl (W.heap.size+1) 91 (infC {} (.slice none 0 0) (.slice none 0 0)) _ rfl rfl ga.out infSize rfl (infC_one _ _ _ _ _ _ _) ?_
     intro W5 HC hV)
   |fail)
  refine bodyPost_ret (results_open _ _ (W.heap.size+1) j _ _ _ rfl rfl HC) rfl ⟨H5.out.grown hV H5.out.size (λg e=>by injection e with e;omega),?_⟩;rw[gb.out,Hy.out];refine⟨_,_,rfl,ew_base (gd.out.grown hV (.inr λe=>?_)) Hs.out,(ge.out.grown hV (.inr λe=>?_)).base Hs.out⟩
  · have h1:=(gd.out.lt _ e).1
    have h2:=Hu.out;omega
  · have h1:=(ge.out.lt e).2
    have h2:=Hu.out;omega
 |error x=>
  rw[hU]at hm;obtain⟨a,rfl,ha,gf⟩:=hm;have Hy:=hid hU;have go:=hid gf;have HA:=hid ha;clear hU gf ha;go_wp2_with (first
   |(refine wpList_rowPut _ rfl (.tmp 2) (.tmp 98) 91 rfl (W.heap.size+1) 91 (infC {} (.slice none 0 0) (.slice none 0 0)) (infC {} (.slice none 0 0) (.slice none 0 0)) rfl rfl ga.out infSize rfl (infC_one _ _ _ _ _ _ _) ?_
     intro W5 HC hV)
   |fail)
  refine bodyPost_ret (results_open _ _ (W.heap.size+1) {} _ _ _ rfl rfl HC) rfl ⟨H5.out.grown hV H5.out.size (λg e=>by injection e with e;omega),?_⟩;rw[gb.out,Hy.out];exact⟨a,rfl,Nat.le_trans Hs.out HA.out,go.out.grown hV (λe=>by injection e with e;have:=HA.out;have:=Hu.out;omega)⟩
end Go.Proofs.YtkpppjhbmnfmkaaGreatDoor
end

section
namespace Go.Proofs.YtkpppjhbmnfmkaaGreatDoor
open Go.RowKit Go.Own Go.Own.Fr Go.Own.Im
theorem enter_prio:Enters Tryz.prog 181:=enters_of Tryz.func181 (by kernel_rfl) rfl
theorem enter_push:Enters Tryz.prog 187:=enters_of Tryz.func187 (by kernel_rfl) rfl
theorem hasF_pads {t f:Nat} (h:hasF t f 8=true):t=0\/t=1\/t=5:=by
 have h':(rowOf t).2.2&&& 8≠0:=by
  intro e;unfold hasF at h;rw[Nat.and_assoc,Nat.and_comm f 8,<-Nat.and_assoc,e,Nat.zero_and]at h;exact absurd h (by decide)
 have hc:t=0\/t=1\/t=2\/t=3\/t=4\/t=5\/t=6\/t=7\/t=8\/t=9\/9<t:=by omega
 rcases hc with rfl|rfl|rfl|rfl|rfl|rfl|rfl|rfl|rfl|rfl|h9
 all_goals first
  |exact .inl rfl
  |exact .inr (.inl rfl)
  |exact .inr (.inr rfl)
  |exact absurd rfl h'
  |(exfalso;apply h';unfold rowOf;split<;>first|omega|rfl)
theorem rdHeadsA (g:Nat) (i:Inf) (A:Option Addr) (n c B:Nat) (l:List UInt8) (W:World) (hb:Blk W g 91 (infC i (.slice none 0 0) (.slice none 0 0))) (hr:Rd W B A n l) (hB:B<=W.heap.size) (hc:n<=c) (hn:n<=1000000000) (ht:i.typ=1) (hs:i.sets=[]):
 Calls Tryz.prog 177 #[.pointer (some ⟨g,0,none⟩),.slice A n c] W (RdPost W g i l):=by
 cases hp:i.prio
 · exact rdHeads g i A n c B l W hb hr hB (by omega) ht hp hs
 · exact rdHeadsP g i A n c B l W hb hr hB hc hn ht hp hs
theorem open_all (t f s:Nat) (A:Option Addr) (n c B:Nat) (l:List UInt8) (W:World) (hr:Rd W B A n l) (hB:B<=W.heap.size) (hc:n<=c) (hn:n<=1000000) (ht:t<=255) (hf:f<=255) (hs:s<=2147483647):
 Calls Tryz.prog 104 #[.agg #[.int .i64 (t:Nat),.int .i64 (f:Nat),.int .i64 (s:Nat),.slice A n c]] W (OpPost W t f s l):=by
 cases hp:hasF t f 8
 · by_cases h1:t=1
   · subst h1
     refine open_any 1 f s A n c B l W hr hB ht hf hs hp λW' g g3 g6 g8 hb hE hI hg=>?_;exact⟨_,#[],rfl,enter_heads,rdHeadsA g (info0 1 f s) A n c W.heap.size l W' hI ((hr.more hB).below hb) hb.size hc (by omega) rfl rfl⟩
   by_cases h2:t=2
   · subst h2
     refine open_any 2 f s A n c B l W hr hB ht hf hs hp λW' g g3 g6 g8 hb hE hI hg=>?_;exact⟨_,#[],rfl,enter_prio,rdPrio g (info0 2 f s) A n c W.heap.size l W' hI ((hr.more hB).below hb) hb.size hc rfl ⟨rfl,rfl⟩⟩
   by_cases h5:t=5
   · subst h5
     refine open_any 5 f s A n c B l W hr hB ht hf hs hp λW' g g3 g6 g8 hb hE hI hg=>?_;exact⟨_,#[],rfl,enter_push,rdPush g (info0 5 f s) A n c W.heap.size l W' hI ((hr.more hB).below hb) hb.size hc (by omega) rfl rfl⟩
   exact open_more t f s A n c B l W hr hB hc hn ht hf hs hp ⟨h2,h5,λe=>absurd e h1⟩
 · refine open_padx t f s (hasF_pads hp) A n c B l W hr hB hc hn hf hp hs λx q W' g g3 g6 g8 A' n' c' hb hI hg h0 h3 h4=>?_
   rcases hasF_pads hp with rfl|rfl|rfl
   · exact⟨_,#[],rfl,enter_rest,rest_rd g _ A' n' c' W.heap.size _ W' hI h0 hb.size (by omega) rfl rfl⟩
   · exact⟨_,#[],rfl,enter_heads,rdHeadsA g _ A' n' c' W.heap.size _ W' hI h0 hb.size h3 (by omega) rfl rfl⟩
   · exact⟨_,#[],rfl,enter_push,rdPush g _ A' n' c' W.heap.size _ W' hI h0 hb.size h3 (by omega) rfl rfl⟩
end Go.Proofs.YtkpppjhbmnfmkaaGreatDoor
end
