/-
  
  
-/
import Derived.Test.YtkpppjhbmnfmkaaGreatDoorJaz
set_option linter.unusedSimpArgs false
set_option linter.unusedVariables false
section
set_option maxHeartbeats 1000000
namespace Go.Proofs.YtkpppjhbmnfmkaaGreatDoor
open Go.RowKit Go.Own Go.Own.Im Go.Own.Cx Go.Own.Fr
attribute [local go_sem] Oper.semAt_some
def gvB (id n:Nat):List UInt8:=if n=0 then[]else frameB 8 0 id (be n 4)
theorem gvB_pos {id n:Nat} (h:0<n):gvB id n=frameB 8 0 id (be n 4):=if_neg (by omega)
theorem gvB_len (id n:Nat):(gvB id n).length<=13:=by
 unfold gvB
 split
 · simp
 · rw[frameB_len,be_len];omega
theorem gvB_zero (id:Nat):gvB id 0=[]:=rfl
theorem updS_self {l:List Sv} {s:Sv} (hs:s∈l) (hu:(l.map (·.id)).Nodup):updS l s=l:=by
 unfold updS
 conv=>rhs;rw[<-List.map_id l]
 refine List.map_congr_left λx hx=>?_;by_cases e:x.id=s.id
 · have:x=s:=inj_of_nodup hu hx hs e
   subst this;simp
 · simp[e]
theorem wsub2G (sz n g:Nat) (h:n<=sz) (hs:sz<=1000000) (e:sz-n=g):wrap64 ((sz:Int)-(n:Int))=(g:Int):=by unfold wrap64;omega
def dataOG (M:Cv) (s:Sv) (g:Nat) (fin:Bool):List UInt8:=(M.out++gvB 0 g)++(if fin=true then[]else gvB s.id g)
def dataMG (M:Cv) (s:Sv) (sz:Nat) (l:List UInt8) (fin:Bool) (A:Option Addr) (c:Nat):Cv:=
 {M with inw:=M.inw-sz+((sz-l.length:Nat):Int),strs:=updS M.strs (dataS s sz l.length fin),out:=dataOG M s (sz-l.length) fin,evs:=dataE M s l fin A c}
theorem gives_zero (w:World) (ow:Nat->Tg) (b:Nat) (M:Cv) (L:Lay) (id:Int) (h:CN w ow b M L):
 Calls Tryz.prog 147 #[.pointer (some ⟨b,0,none⟩),.int .i64 id,.int .i64 0] w (CPostL w ow b L M (.tuple #[])):=by
 have HC:=Lib.hid h;clear h;go_enter Tryz.func147,Tryz.ntmps147;go_wp2;go_end0;exact⟨ow,L,rfl,HC.out,Fr.refl _ _,rfl⟩
theorem gives_connG (w:World) (ow:Nat->Tg) (b:Nat) (M:Cv) (L:Lay) (n:Nat) (h:CN w ow b M L) (hn:n<=2147483647) (ha: -2147483647<=M.inw/\M.inw<=2147483647) (hs:M.inw+n<=2147483647) (ho:M.out.length<=1000000000):
 Calls Tryz.prog 147 #[.pointer (some ⟨b,0,none⟩),.int .i64 0,.int .i64 (n:Nat)] w (CPostL w ow b L {M with inw:=M.inw+n,out:=M.out++gvB 0 n} (.tuple #[])):=by
 rcases Nat.eq_zero_or_pos n with h0|h0
 · subst h0
   have e:({M with inw:=M.inw+((0:Nat):Int),out:=M.out++gvB 0 0}:Cv)=M:=by
    cases M;simp[gvB_zero]
   rw[e];exact gives_zero w ow b M L 0 h
 · rw[gvB_pos h0]
   exact gives_conn w ow b M L n h h0 hn ha hs ho
theorem gives_strG (w:World) (ow:Nat->Tg) (b:Nat) (M:Cv) (L:Lay) (s:Sv) (n:Nat) (h:CN w ow b M L) (hu:(M.strs.map (·.id)).Nodup) (h2:strAt M (s.id:Int)=some s) (hid:0<s.id/\s.id<=2147483647) (hn:n<=2147483647) (ha: -2147483647<=s.inw/\s.inw<=2147483647) (hs:s.inw+n<=2147483647) (ho:M.out.length<=1000000000):
 Calls Tryz.prog 147 #[.pointer (some ⟨b,0,none⟩),.int .i64 (s.id:Nat),.int .i64 (n:Nat)] w (CPostL w ow b L {M with strs:=updS M.strs {s with inw:=s.inw+n},out:=M.out++gvB s.id n} (.tuple #[])):=by
 rcases Nat.eq_zero_or_pos n with h0|h0
 · subst h0
   obtain⟨_,h1,_⟩:=at_some (L:=L) h2;have e:({M with strs:=updS M.strs {s with inw:=s.inw+((0:Nat):Int)},out:=M.out++gvB s.id 0}:Cv)=M:=by
    have e1:({s with inw:=s.inw+((0:Nat):Int)}:Sv)=s:=by cases s;simp
    rw[e1,updS_self h1 hu,gvB_zero,List.append_nil]
   rw[e];exact gives_zero w ow b M L s.id h
 · rw[gvB_pos h0]
   exact gives_str w ow b M L s n h h2 hid h0 hn ha hs ho
end Go.Proofs.YtkpppjhbmnfmkaaGreatDoor
end

section
set_option maxHeartbeats 16000000
set_option maxRecDepth 100000
namespace Go.Proofs.YtkpppjhbmnfmkaaGreatDoor
open Go.RowKit Go.Own Go.Own.Im Go.Own.Cx Go.Own.Fr
attribute [local go_sem] Oper.semAt_some
theorem data_okW (w0:World) (ow0:Nat->Tg) (w:World) (ow:Nat->Tg) (b:Nat) (M:Cv) (L:Lay) (s:Sv) (i:Inf) (sv:Value) (A:Option Addr) (n c sz g:Nat) (l:List UInt8) (hF:Fr w0 ow0 w ow) (h:CN w ow b M L) (hk:knownB M s.id=true) (Hv:strAt M (s.id:Int)=some s) (hi:i.stream=s.id) (HI:s.other=1) (HK:s.own≠3) (hid:0<s.id/\s.id<=2147483647) (hu:(M.strs.map (·.id)).Nodup)
 (hr:Rd w w.heap.size A n l) (Hg:0<n->∀ad,A=some ad->ow ad.block= .no/\w0.heap.size<=ad.block/\UF w ad.block) (hc:n<=c) (hn:n<=sz) (hsz:sz<=65535) (hg:sz-n=g) (HN:(sz:Int)<=M.inw/\M.inw<=65535) (HO:((sz:Int)<=s.inw\/sz=0)/\ -2000000000<=s.inw/\s.inw<=2147483647) (hh:s.held<=1000000) (ho:M.out.length<=900000000) (HQ:M.evs.length<=900000):
 Calls Tryz.prog 148 #[.pointer (some ⟨b,0,none⟩),.agg (infC i sv (.slice A n c)),.int .i64 (sz:Nat)] w (CPostS w0 ow0 b (λM'=>M'=dataMG M s sz l i.endd A c) (.tuple #[])):=by
 obtain⟨h1,Hh,_⟩:=at_some (L:=L) Hv;have Hi:l.length=n:=hr.1;have HS:(Lit.int .i64 (s.id:Int)).wf=true:=by simp[Lit.wf,IntKind.min,IntKind.max,IntKind.bits,IntKind.signed];omega
 have HX:=Lib.hid (Blk.new w 91 (infC i sv (.slice A n c)));have Hx:=Lib.hid ((Below.refl w.heap.size w).alloc (Nat.le_refl _) (.cells (infC i sv (.slice A n c)) 91));have HC:=Lib.hid h;have HR:=Lib.hid hr;have hl:=Lib.hid Hg;have Hn:=Lib.hid hF;have HH:=Lib.hid (show _/\_/\_/\_/\_/\_/\_/\_ from⟨Hh,HI,HK,hid,hu,hc,Hv,hi⟩);have h2:=Lib.hid (show _/\_/\_/\_/\_/\_/\_/\_ from⟨hn,hsz,hg,HN,HO,hh,ho,HQ⟩);have he:=Lib.hid Hi;have hU:=idle_ok (w.alloc (.cells (infC i sv (.slice A n c)) 91)) ow b M L s.id (h.below Hx.out) hk HS;rw[h1]at hU;have g3:=Lib.hid hU;have hY:=wsub2G sz n g hn (by omega) hg;have HT:=Lib.hid hY;have HU:=Lib.hid (show(sz:Int)-(n:Int)=(g:Int)by omega);have Ho:=Lib.hid (h.new w.heap.size (Nat.le_refl _));clear hF h hk Hv HI HK hu hr Hg hc hg HN HO hh ho HQ h1 Hh Hi HS hU hY hid;go_enter Tryz.func148,Tryz.ntmps148;go_upto_region 1 with fail;generalize w.alloc (.cells (infC i sv (.slice A n c)) 91)=W0 at*
 have Hy:=Lib.hid (HC.out.below Hx.out);have x2:W0.cell? ⟨w.heap.size,2,none⟩=some (.int .i64 (i.stream:Nat)):=HX.out.cell 2;rw[hi]at x2;have c8:W0.cell? ⟨b,8,none⟩=some (.pointer (some ⟨L.ib,0,none⟩)):=Hy.out.blk.cell 8;go_wp2_with fail;refine g3.out.mono ?_;rintro e w1 ⟨rfl,hw⟩;subst w1;have g4:=Lib.hid (take_yes W0 L.ib M.inw sz Hy.out.p.inw (.inl h2.out.2.2.2.1.1) (by have:=h2.out;omega) (by have:=h2.out;omega));go_wp2_with fail;refine g4.out.mono ?_;rintro e w1 ⟨rfl,hw⟩;have H0:=Hy.out.inws (M.inw-(sz:Int));rw[<-hw]at H0;have HV:=Lib.hid H0.1;have g5:=Lib.hid ((Fr.below Hx.out ow).trans H0.2);have g6:=Lib.hid (H0.2.blk HX.out Ho.out);have Hp:=HV.out.p.strs s HH.out.1;have HW:=Lib.hid Hp.inw;have d2:w1.cell? ⟨(L.s s.id).sb,2,none⟩=some (.int .i64 (s.other:Nat)):=Hp.blk.cell 2;have d3:w1.cell? ⟨(L.s s.id).sb,3,none⟩=some (.pointer (some ⟨(L.s s.id).ib,0,none⟩)):=Hp.blk.cell 3;rw[HH.out.2.1]at d2;have g7:=Lib.hid (take_yes w1 (L.s s.id).ib s.inw sz HW.out h2.out.2.2.2.2.1.1 (by have:=h2.out;omega) (by have:=h2.out;omega));clear H0 Hp x2 c8 hw;go_wp2_with fail;refine g7.out.mono ?_;rintro e w2 ⟨rfl,hw⟩;have H1:=HV.out.sins HH.out.1 (s.inw-(sz:Int));rw[<-hw]at H1;have g8:=Lib.hid H1.1;have g9:=Lib.hid (g5.out.trans H1.2);have HB:=Lib.hid (H1.2.blk g6.out (show ow w.heap.size= .no from Ho.out));have x17:w2.cell? ⟨w.heap.size,17,none⟩=some (.slice A n c):=HB.out.cell 17;have ga:=Lib.hid (gives_connG w2 ow b _ L g g8.out (by have:=h2.out;omega) (show -2147483647<=M.inw-(sz:Int)/\M.inw-(sz:Int)<=2147483647 by have:=h2.out;omega) (show M.inw-(sz:Int)+(g:Int)<=2147483647 by have:=h2.out;omega) (by have:=h2.out;show M.out.length<=_;omega));have hY:=HT.out;clear H1 hw d2 d3 HW;go_wp2_with fail;clear hY x17;rw[HU.out];refine ga.out.mono ?_;rintro e w3 ⟨ow3,L3,rfl,HY,Hq,HZ⟩;have Hj:=strAt_upd (s':={s with inw:=s.inw-(sz:Int)}) HH.out.2.2.2.2.2.2.1 rfl {M with inw:=M.inw-(sz:Int)+(g:Int),strs:=updS M.strs {s with inw:=s.inw-(sz:Int)},out:=M.out++gvB 0 g} rfl;have HD:=Lib.hid HY;have HE:=Lib.hid (g9.out.trans Hq);have hM:=Lib.hid (Hq.blk HB.out Ho.out);have hm:=Lib.hid (show ow3 w.heap.size= .no from Hq.no _ HB.out.lt Ho.out);have hZ:=Lib.hid (show(L3.s s.id).sb=(L.s s.id).sb by rw[HZ]);have Hl:=Lib.hid Hj;obtain⟨fin,hV⟩:∃f,i.endd=f:=⟨_,rfl⟩;have x3:w3.cell? ⟨w.heap.size,3,none⟩=some (.bool i.endd):=hM.out.cell 3;rw[hV]at x3;have x2:w3.cell? ⟨w.heap.size,2,none⟩=some (.int .i64 (i.stream:Nat)):=hM.out.cell 2;rw[hi]at x2;have x17:w3.cell? ⟨w.heap.size,17,none⟩=some (.slice A n c):=hM.out.cell 17;obtain⟨sb,g0⟩:∃g,(L.s s.id).sb=g:=⟨_,rfl⟩;rw[g0]at hZ ⊢;have g1:=hl.out;have h5:=Lib.hid hV;clear Hj HY Hq HZ g0 hV;cases fin with
 |true=>
  have H2:=Lib.hid (show CN w3 ow3 b {M with inw:=M.inw-(sz:Int)+(g:Int),strs:=updS M.strs {s with inw:=s.inw-(sz:Int)},out:=dataOG M s g true} L3 from by unfold dataOG;rw[if_pos rfl,List.append_nil];exact HD.out);have k4:0<n\/true=true:=.inr rfl;clear g1;obtain⟨s4,h0⟩:∃x:Sv,x={s with inw:=s.inw-(sz:Int)}:=⟨_,rfl⟩;have h7:=H2.out;rw[<-h0]at h7;have hC:s4.id=s.id:=by rw[h0]
  have H3:s4.own=s.own:=by rw[h0]
  have H4:s4.held=s.held:=by rw[h0]
  have hD:=Lib.hid (show _/\_/\_ from⟨h0,hC,H3⟩);have hN:s4∈updS M.strs s4:=mem_updS HH.out.1 hC.symm;have H5:=h7.p.strs s4 hN;have hE:=H5.blk;have hO:(L3.s s4.id).sb=sb:=by rw[hC];exact hZ.out
  rw[hO]at hE;have d9:w3.cell? ⟨sb,9,none⟩=some (.int .i64 (s4.held:Nat)):=hE.cell 9;rw[H4]at d9;have f9:=hE.frozen 9;have hP:=h7.strcell (s:=s4) (s':={s4 with held:=s.held+n}) hN rfl 9 (.int .i64 ((s.held+n:Nat):Int)) rfl rfl rfl rfl;rw[hO,show((s.held+n:Nat):Int)=(s.held:Int)+(n:Int)from rfl]at hP;have hG:=Lib.hid hP;have hQ:=wadd2 s.held n (by have:=h2.out;omega) (by have:=h2.out;omega);have hW:=hQ.1;have hX:=hQ.2;clear H5 hE hP hQ h0 h7 hC H3 H4 hN hO;go_upto_region 19 with fail;go_region;obtain⟨W5,hq⟩:∃W,W=(w3.setCell ⟨sb,9,none⟩ (.int .i64 ((s.held:Int)+(n:Int)))).drew:=⟨_,rfl⟩;rw[<-hq];obtain⟨s5,h3⟩:∃x:Sv,x={s4 with held:=s.held+n}:=⟨_,rfl⟩;have hR:CN W5 ow3 b {M with inw:=M.inw-(sz:Int)+(g:Int),strs:=updS (updS M.strs s4) {s4 with held:=s.held+n},out:=dataOG M s g true} L3:=hq▸hG.out.1.drew;rw[updS_two M.strs (s1:=s4) (s2:={s4 with held:=s.held+n}) rfl,<-h3]at hR;have H7:=Lib.hid hR;have h4:=Lib.hid (show s5={s4 with held:=s.held+n}/\s5.id=s.id/\s5.own=s.own from⟨h3,by rw[h3];exact hD.out.2.1,by rw[h3];exact hD.out.2.2⟩);have hd:=Lib.hid (show Fr w ow W5 ow3 from hq▸(HE.out.trans hG.out.2).drew);have hA:=Lib.hid (show Blk W5 w.heap.size 91 (infC i sv (.slice A n c))from hq▸hG.out.2.blk hM.out hm.out);have x3':W5.cell? ⟨w.heap.size,3,none⟩=some (.bool i.endd):=hA.out.cell 3;rw[h5.out]at x3';have x2':W5.cell? ⟨w.heap.size,2,none⟩=some (.int .i64 (i.stream:Nat)):=hA.out.cell 2;rw[hi]at x2';have x17':W5.cell? ⟨w.heap.size,17,none⟩=some (.slice A n c):=hA.out.cell 17;have H8:=hd.out.rd HR.out (Nat.le_refl _) (λhp ad e=>(hl.out hp ad e).1);have Hs:=Lib.hid H8;clear hW hX hq hR hG H2 x3 x2 x17 d9 f9 H8 h3;rcases Nat.eq_zero_or_pos n with hH|hH
  · have k5:((0:Int)<(n:Int))=False:=by simp;omega
    have k5':(0<n)=False:=by simp;omega
    clear hH;have H9:=evd_tag (st:=s.id) (fin:=true) (Hn.out.trans hd.out) H7.out Hs.out hd.out.size HH.out.2.2.2.2.2.1 (λhp ad e=>by
     have hf:ad.block<w.heap.size:=by obtain⟨ad2,e2,hf,_⟩:=HR.out.2 hp;rw[e]at e2;injection e2 with e2;rw[e2];exact hf
     have ho:=hl.out hp ad e;exact⟨hd.out.no _ hf ho.1,ho.2.1,ho.2.2.same (hd.out.keep _ hf ho.1)⟩)
    obtain⟨OW6,hI,hJ,h8,hb⟩:=H9;have Ha:=Lib.hid hJ;have ht:=Lib.hid (show OW6 w.heap.size= .no from(hb _ (Nat.le_refl _)).trans hm.out);have hj:=tell_anyL W5 OW6 b _ L3 {kind:=2,stream:=s.id,fin:=true,ba:=A,bc:=c,by_:=l} hI h8 (by have:=h2.out;show M.evs.length<=_;omega);rw[evC_data,he.out]at hj;have hj:=Lib.hid hj;clear hI hJ h8 hb;go_wp2_with fail;clear x3' x2' x17';refine hj.out.mono ?_;rintro e w7 ⟨ow7,L7,rfl,hK,hs,hL⟩;have Hb:=Lib.hid (hs.blk hA.out ht.out);have x3':w7.cell? ⟨w.heap.size,3,none⟩=some (.bool i.endd):=Hb.out.cell 3;rw[h5.out]at x3';have h6:=ends_any w7 ow7 b _ L7 s5 true hK (mem_updS HH.out.1 h4.out.2.1.symm) (by rw[h4.out.2.2];exact HH.out.2.2.1) (by show((updS M.strs _).map (·.id)).Nodup;rw[updS_ids];exact HH.out.2.2.2.2.1);rw[show(L7.s s5.id).sb=sb from by rw[hL,h4.out.2.1];exact hZ.out]at h6;have h6:=Lib.hid h6;have Hc:=Lib.hid (Ha.out.trans hs);clear hK hs hL;go_wp2_with fail;clear x3';refine h6.out.mono ?_;intro e w8 hp;obtain rfl:=hp.ret;have HP:=Lib.hid hp;clear hp;go_wp2;go_end0;obtain⟨ow8,L8,_,hS,hT⟩:=HP.out;refine⟨_,rfl,ow8,L8,rfl,?_,Hc.out.trans hT⟩;have e8:dataMG M s sz l i.endd A c={M with inw:=M.inw-(sz:Int)+(g:Int),strs:=updS (updS M.strs s5) (endS s5 true),out:=dataOG M s g true,evs:=M.evs++[({kind:=2,stream:=s.id,fin:=true,ba:=A,bc:=c,by_:=l}:EvV)]}:=by
     rw[updS_two M.strs (s1:=s5) (s2:=endS s5 true) (by cases h4.out.1;rfl)];unfold dataMG dataE dataS;rw[h5.out,he.out,h2.out.2.2.1,if_pos (.inr rfl),h4.out.1,hD.out.1]
     rfl
    rw[e8];exact hS
  · have k5:((0:Int)<(n:Int))=True:=by simp;omega
    have k5':(0<n)=True:=by simp;omega
    clear hH;have H9:=evd_tag (st:=s.id) (fin:=true) (Hn.out.trans hd.out) H7.out Hs.out hd.out.size HH.out.2.2.2.2.2.1 (λhp ad e=>by
     have hf:ad.block<w.heap.size:=by obtain⟨ad2,e2,hf,_⟩:=HR.out.2 hp;rw[e]at e2;injection e2 with e2;rw[e2];exact hf
     have ho:=hl.out hp ad e;exact⟨hd.out.no _ hf ho.1,ho.2.1,ho.2.2.same (hd.out.keep _ hf ho.1)⟩)
    obtain⟨OW6,hI,hJ,h8,hb⟩:=H9;have Ha:=Lib.hid hJ;have ht:=Lib.hid (show OW6 w.heap.size= .no from(hb _ (Nat.le_refl _)).trans hm.out);have hj:=tell_anyL W5 OW6 b _ L3 {kind:=2,stream:=s.id,fin:=true,ba:=A,bc:=c,by_:=l} hI h8 (by have:=h2.out;show M.evs.length<=_;omega);rw[evC_data,he.out]at hj;have hj:=Lib.hid hj;clear hI hJ h8 hb;go_wp2_with fail;clear x3' x2' x17';refine hj.out.mono ?_;rintro e w7 ⟨ow7,L7,rfl,hK,hs,hL⟩;have Hb:=Lib.hid (hs.blk hA.out ht.out);have x3':w7.cell? ⟨w.heap.size,3,none⟩=some (.bool i.endd):=Hb.out.cell 3;rw[h5.out]at x3';have h6:=ends_any w7 ow7 b _ L7 s5 true hK (mem_updS HH.out.1 h4.out.2.1.symm) (by rw[h4.out.2.2];exact HH.out.2.2.1) (by show((updS M.strs _).map (·.id)).Nodup;rw[updS_ids];exact HH.out.2.2.2.2.1);rw[show(L7.s s5.id).sb=sb from by rw[hL,h4.out.2.1];exact hZ.out]at h6;have h6:=Lib.hid h6;have Hc:=Lib.hid (Ha.out.trans hs);clear hK hs hL;go_wp2_with fail;clear x3';refine h6.out.mono ?_;intro e w8 hp;obtain rfl:=hp.ret;have HP:=Lib.hid hp;clear hp;go_wp2;go_end0;obtain⟨ow8,L8,_,hS,hT⟩:=HP.out;refine⟨_,rfl,ow8,L8,rfl,?_,Hc.out.trans hT⟩;have e8:dataMG M s sz l i.endd A c={M with inw:=M.inw-(sz:Int)+(g:Int),strs:=updS (updS M.strs s5) (endS s5 true),out:=dataOG M s g true,evs:=M.evs++[({kind:=2,stream:=s.id,fin:=true,ba:=A,bc:=c,by_:=l}:EvV)]}:=by
     rw[updS_two M.strs (s1:=s5) (s2:=endS s5 true) (by cases h4.out.1;rfl)];unfold dataMG dataE dataS;rw[h5.out,he.out,h2.out.2.2.1,if_pos (.inr rfl),h4.out.1,hD.out.1]
     rfl
    rw[e8];exact hS
 |false=>
  have hY:=HT.out;have gb:=Lib.hid (gives_strG w3 ow3 b _ L3 {s with inw:=s.inw-(sz:Int)} g HD.out (by show((updS M.strs _).map (·.id)).Nodup;rw[updS_ids];exact HH.out.2.2.2.2.1) Hl.out HH.out.2.2.2.1 (by have:=h2.out;omega) (show -2147483647<=s.inw-(sz:Int)/\s.inw-(sz:Int)<=2147483647 by have:=h2.out;omega) (show s.inw-(sz:Int)+(g:Int)<=2147483647 by have:=h2.out;omega) (by have:=h2.out;have h9:=gvB_len 0 g;show(M.out++gvB 0 g).length<=_;rw[List.length_append];omega));go_wp2_with fail;clear hY x17 x2 x3;rw[HU.out];refine gb.out.mono ?_;rintro e w4 ⟨ow4,L4,rfl,He,Ht,g2⟩;have e4:=updS_two M.strs (s1:={s with inw:=s.inw-(sz:Int)}) (s2:={s with inw:=s.inw-(sz:Int)+(g:Int)}) rfl;have He:CN w4 ow4 b {M with inw:=M.inw-(sz:Int)+(g:Int),strs:=updS (updS M.strs {s with inw:=s.inw-(sz:Int)}) {s with inw:=s.inw-(sz:Int)+(g:Int)},out:=dataOG M s g false} L4:=He;rw[e4]at He;have H2:=Lib.hid He;have gc:=Lib.hid (HE.out.trans Ht);have Hu:=Lib.hid (Ht.blk hM.out hm.out);have Hm:=Lib.hid (show ow4 w.heap.size= .no from Ht.no _ hM.out.lt hm.out);have HF:=Lib.hid (show(L4.s s.id).sb=sb by rw[g2];exact hZ.out);have x3:w4.cell? ⟨w.heap.size,3,none⟩=some (.bool i.endd):=Hu.out.cell 3;rw[h5.out]at x3;have x2:w4.cell? ⟨w.heap.size,2,none⟩=some (.int .i64 (i.stream:Nat)):=Hu.out.cell 2;rw[hi]at x2;have x17:w4.cell? ⟨w.heap.size,17,none⟩=some (.slice A n c):=Hu.out.cell 17;clear e4 He Ht g2 HD hM hm hZ Hl HE g1;obtain⟨s4,h0⟩:∃x:Sv,x={s with inw:=s.inw-(sz:Int)+(g:Int)}:=⟨_,rfl⟩;have h7:=H2.out;rw[<-h0]at h7;have hC:s4.id=s.id:=by rw[h0]
  have H3:s4.own=s.own:=by rw[h0]
  have H4:s4.held=s.held:=by rw[h0]
  have hD:=Lib.hid (show _/\_/\_ from⟨h0,hC,H3⟩);have hN:s4∈updS M.strs s4:=mem_updS HH.out.1 hC.symm;have H5:=h7.p.strs s4 hN;have hE:=H5.blk;have hO:(L4.s s4.id).sb=sb:=by rw[hC];exact HF.out
  rw[hO]at hE;have d9:w4.cell? ⟨sb,9,none⟩=some (.int .i64 (s4.held:Nat)):=hE.cell 9;rw[H4]at d9;have f9:=hE.frozen 9;have hP:=h7.strcell (s:=s4) (s':={s4 with held:=s.held+n}) hN rfl 9 (.int .i64 ((s.held+n:Nat):Int)) rfl rfl rfl rfl;rw[hO,show((s.held+n:Nat):Int)=(s.held:Int)+(n:Int)from rfl]at hP;have hG:=Lib.hid hP;have hQ:=wadd2 s.held n (by have:=h2.out;omega) (by have:=h2.out;omega);have hW:=hQ.1;have hX:=hQ.2;clear H5 hE hP hQ h0 h7 hC H3 H4 hN hO;go_upto_region 19 with fail;go_region;obtain⟨W5,hq⟩:∃W,W=(w4.setCell ⟨sb,9,none⟩ (.int .i64 ((s.held:Int)+(n:Int)))).drew:=⟨_,rfl⟩;rw[<-hq];obtain⟨s5,h3⟩:∃x:Sv,x={s4 with held:=s.held+n}:=⟨_,rfl⟩;have hR:CN W5 ow4 b {M with inw:=M.inw-(sz:Int)+(g:Int),strs:=updS (updS M.strs s4) {s4 with held:=s.held+n},out:=dataOG M s g false} L4:=hq▸hG.out.1.drew;rw[updS_two M.strs (s1:=s4) (s2:={s4 with held:=s.held+n}) rfl,<-h3]at hR;have H7:=Lib.hid hR;have h4:=Lib.hid (show s5={s4 with held:=s.held+n}/\s5.id=s.id/\s5.own=s.own from⟨h3,by rw[h3];exact hD.out.2.1,by rw[h3];exact hD.out.2.2⟩);have hd:=Lib.hid (show Fr w ow W5 ow4 from hq▸(gc.out.trans hG.out.2).drew);have hA:=Lib.hid (show Blk W5 w.heap.size 91 (infC i sv (.slice A n c))from hq▸hG.out.2.blk Hu.out Hm.out);have x3':W5.cell? ⟨w.heap.size,3,none⟩=some (.bool i.endd):=hA.out.cell 3;rw[h5.out]at x3';have x2':W5.cell? ⟨w.heap.size,2,none⟩=some (.int .i64 (i.stream:Nat)):=hA.out.cell 2;rw[hi]at x2';have x17':W5.cell? ⟨w.heap.size,17,none⟩=some (.slice A n c):=hA.out.cell 17;have H8:=hd.out.rd HR.out (Nat.le_refl _) (λhp ad e=>(hl.out hp ad e).1);have Hs:=Lib.hid H8;clear hW hX hq hR hG H2 x3 x2 x17 d9 f9 H8 h3;rcases Nat.eq_zero_or_pos n with hH|hH
  · have k5:((0:Int)<(n:Int))=False:=by simp;omega
    have k5':(0<n)=False:=by simp;omega
    have HG:=Lib.hid hH;clear hH;have h6:=ends_any W5 ow4 b _ L4 s5 false H7.out (mem_updS HH.out.1 h4.out.2.1.symm) (by rw[h4.out.2.2];exact HH.out.2.2.1) (by show((updS M.strs _).map (·.id)).Nodup;rw[updS_ids];exact HH.out.2.2.2.2.1);rw[show(L4.s s5.id).sb=sb from by rw[h4.out.2.1];exact HF.out]at h6;have h6:=Lib.hid h6;go_wp2_with fail;clear x3' x2' x17';refine h6.out.mono ?_;intro e w8 hp;obtain rfl:=hp.ret;have HP:=Lib.hid hp;clear hp;go_wp2;go_end0;obtain⟨ow8,L8,_,hS,hT⟩:=HP.out;refine⟨_,rfl,ow8,L8,rfl,?_,(Hn.out.trans hd.out).trans hT⟩;have e8:dataMG M s sz l i.endd A c={M with inw:=M.inw-(sz:Int)+(g:Int),strs:=updS (updS M.strs s5) (endS s5 false),out:=dataOG M s g false}:=by
     rw[updS_two M.strs (s1:=s5) (s2:=endS s5 false) (by cases h4.out.1;rfl)];unfold dataMG dataE dataS;rw[h5.out,he.out,h2.out.2.2.1,if_neg (by rintro(h|h);exact absurd h (by have:=HG.out;omega);cases h),h4.out.1,hD.out.1]
     rfl
    rw[e8];exact hS
  · have k5:((0:Int)<(n:Int))=True:=by simp;omega
    have k5p:(0<n)=True:=by simp;omega
    have HG:=Lib.hid hH;clear hH;have H9:=evd_tag (st:=s.id) (fin:=false) (Hn.out.trans hd.out) H7.out Hs.out hd.out.size HH.out.2.2.2.2.2.1 (λhp ad e=>by
     have hf:ad.block<w.heap.size:=by obtain⟨ad2,e2,hf,_⟩:=HR.out.2 hp;rw[e]at e2;injection e2 with e2;rw[e2];exact hf
     have ho:=hl.out hp ad e;exact⟨hd.out.no _ hf ho.1,ho.2.1,ho.2.2.same (hd.out.keep _ hf ho.1)⟩)
    obtain⟨OW6,hI,hJ,h8,hb⟩:=H9;have Ha:=Lib.hid hJ;have ht:=Lib.hid (show OW6 w.heap.size= .no from(hb _ (Nat.le_refl _)).trans Hm.out);have hj:=tell_anyL W5 OW6 b _ L4 {kind:=2,stream:=s.id,fin:=false,ba:=A,bc:=c,by_:=l} hI h8 (by have:=h2.out;show M.evs.length<=_;omega);rw[evC_data,he.out]at hj;have hj:=Lib.hid hj;clear hI hJ h8 hb;go_wp2_with fail;clear x3' x2' x17';refine hj.out.mono ?_;rintro e w7 ⟨ow7,L7,rfl,hK,hs,hL⟩;have Hb:=Lib.hid (hs.blk hA.out ht.out);have x3':w7.cell? ⟨w.heap.size,3,none⟩=some (.bool i.endd):=Hb.out.cell 3;rw[h5.out]at x3';have h6:=ends_any w7 ow7 b _ L7 s5 false hK (mem_updS HH.out.1 h4.out.2.1.symm) (by rw[h4.out.2.2];exact HH.out.2.2.1) (by show((updS M.strs _).map (·.id)).Nodup;rw[updS_ids];exact HH.out.2.2.2.2.1);rw[show(L7.s s5.id).sb=sb from by rw[hL,h4.out.2.1];exact HF.out]at h6;have h6:=Lib.hid h6;have Hc:=Lib.hid (Ha.out.trans hs);clear hK hs hL;go_wp2_with fail;clear x3';refine h6.out.mono ?_;intro e w8 hp;obtain rfl:=hp.ret;have HP:=Lib.hid hp;clear hp;go_wp2;go_end0;obtain⟨ow8,L8,_,hS,hT⟩:=HP.out;refine⟨_,rfl,ow8,L8,rfl,?_,Hc.out.trans hT⟩;have e8:dataMG M s sz l i.endd A c={M with inw:=M.inw-(sz:Int)+(g:Int),strs:=updS (updS M.strs s5) (endS s5 false),out:=dataOG M s g false,evs:=M.evs++[({kind:=2,stream:=s.id,fin:=false,ba:=A,bc:=c,by_:=l}:EvV)]}:=by
     rw[updS_two M.strs (s1:=s5) (s2:=endS s5 false) (by cases h4.out.1;rfl)];unfold dataMG dataE dataS;rw[h5.out,he.out,h2.out.2.2.1,if_pos (.inl HG.out),h4.out.1,hD.out.1]
     rfl
    rw[e8];exact hS
end Go.Proofs.YtkpppjhbmnfmkaaGreatDoor
end
