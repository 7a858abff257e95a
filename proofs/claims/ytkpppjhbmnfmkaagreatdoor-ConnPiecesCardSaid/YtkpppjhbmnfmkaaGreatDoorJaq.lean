/-
  
  
  
  
  
  
  
  
-/
import Derived.Test.YtkpppjhbmnfmkaaGreatDoorJap
import Derived.Test.YtkpppjhbmnfmkaaGreatDoorF6
import Derived.BigQuiet
import Derived.Test.YtkpppjhbmnfmkaaGreatDoorJaa
import Derived.Test.YtkpppjhbmnfmkaaGreatDoorYu
set_option linter.unusedSimpArgs false
set_option linter.unusedVariables false
section
set_option maxHeartbeats 8000000
set_option maxRecDepth 100000
namespace Go.Own.Fr
open Lib (hid)
theorem frame_parts (t f s:Nat) (p r:List UInt8) (ht:t<=255) (hf:f<=255) (hs:s<=2147483647) (hp:p.length<16777216):
 ofB 0 ((frameB t f s p++r).take 3)=p.length/\((frameB t f s p++r).getD 3 0).toNat=t/\((frameB t f s p++r).getD 4 0).toNat=f/\low (ofB 0 (((frameB t f s p++r).drop 5).take 4))=s/\
 ((frameB t f s p++r).drop 9).take p.length=p/\(frameB t f s p++r).drop (9+p.length)=r:=by
 have e:frameB t f s p++r=be p.length 3++(UInt8.ofNat t::UInt8.ofNat f::(be s 4++(p++r))):=by simp[frameB]
 have e5:(frameB t f s p++r).drop 5=be s 4++(p++r):=by rw[e];rfl
 have e9:(frameB t f s p++r).drop 9=p++r:=by rw[e];rfl
 refine⟨?_,?_,?_,?_,?_,?_⟩
 · rw[e,List.take_left' (be_len _ _),ofB_be];omega
 · rw[e];show(UInt8.ofNat t).toNat=t;simp;omega
 · rw[e];show(UInt8.ofNat f).toNat=f;simp;omega
 · rw[e5,List.take_left' (be_len _ _),ofB_be];unfold low;omega
 · rw[e9,List.take_left' rfl]
 · rw[<-List.drop_drop,e9,List.drop_left' rfl]
end Go.Own.Fr
namespace Go.Proofs.YtkpppjhbmnfmkaaGreatDoor
open Lib (hid)
open Go.RowKit Go.Own Go.Own.Im Go.Own.Cx Go.Own.Fr
def TakesT (M:Cv) (t f s:Nat) (p:List UInt8) (S:Cv->Prop):Prop:=∀(w:World) (ow:Nat->Tg) (b:Nat) (L:Lay) (A:Option Addr) (c:Nat),Env w ow->CN w ow b M L->Rd w w.heap.size A p.length p->(0<p.length->∀ad,A=some ad->ow ad.block= .no)->p.length<=c->
 Calls Tryz.prog 72 #[.pointer (some ⟨b,0,none⟩),.agg #[.int .i64 (t:Nat),.int .i64 (f:Nat),.int .i64 (s:Nat),.slice A p.length c]] w (CPostS w ow b S (.tuple #[]))
def TakesP (M:Cv) (t f s:Nat) (p:List UInt8) (S:Cv->Prop) (c0 s0:Nat):Prop:=∀(w:World) (ow:Nat->Tg) (b:Nat) (L:Lay) (A:Option Addr) (c:Nat),Env w ow->CN w ow b M L->Rd w w.heap.size A p.length p->(0<p.length->∀ad,A=some ad->ow ad.block= .no)->p.length<=c->
 Calls Tryz.prog 72 #[.pointer (some ⟨b,0,none⟩),.agg #[.int .i64 (t:Nat),.int .i64 (f:Nat),.int .i64 (s:Nat),.slice A p.length c]] w (PPostS w ow b S c0 s0)
def FaultT (M:Cv) (c0 s0:Nat) (S:Cv->Prop):Prop:=∀(w:World) (ow:Nat->Tg) (b:Nat) (L:Lay),CN w ow b M L->
 Calls Tryz.prog 69 #[.pointer (some ⟨b,0,none⟩),.agg #[.int .i64 (c0:Nat),.int .i64 (s0:Nat)]] w (CPostS w ow b S (.tuple #[]))
def FParts (x:List UInt8) (t f s:Nat) (p r:List UInt8):Prop:=9+p.length<=x.length/\ofB 0 (x.take 3)=p.length/\(x.getD 3 0).toNat=t/\(x.getD 4 0).toNat=f/\low (ofB 0 ((x.drop 5).take 4))=s/\(x.drop 9).take p.length=p/\x.drop (9+p.length)=r
theorem step_takesF (M:Cv) (S:Cv->Prop) (t f s:Nat) (p r:List UInt8) (h9:M.preface=24) (hl:FParts M.fed t f s p r) (ht:t<=255) (hf:f<=255) (hs:s<=2147483647) (hp:p.length<=16384) (hT:TakesT {M with fed:=r} t f s p S):StepT M true S:=by
 intro w ow b L hE h;have hM:=hid (((Below.refl w.heap.size w).alloc (Nat.le_refl _) (.cells #[.pointer (some ⟨b,0,none⟩)] 26)).alloc (by simp) (.cells #[.bool false] 4));have X0:=hid ((Blk.new w 26 #[.pointer (some ⟨b,0,none⟩)]).alloc (.cells #[.bool false] 4));have X1:=hid (Blk.new (w.alloc (.cells #[.pointer (some ⟨b,0,none⟩)] 26)) 4 #[.bool false]);have HC:=hid h;have hX:=hid h9;have HL:=hid hl;have HE:=hid hE;have HT:=hid hT;have h5:=hid hl.2;have hY:=hid hp;clear h hl h9 hE hT ht hf hs hp;simp only[World.size_alloc]at X1;go_enter_defers Tryz.func40,Tryz.ntmps40;go_upto_region 1 with fail;generalize (w.alloc (.cells #[.pointer (some ⟨b,0,none⟩)] 26)).alloc (.cells #[.bool false] 4)=W0 at*
 have HP:=hid (preface_any W0);go_wp2_with fail;refine HP.out.mono ?_;rintro e w1 ⟨rfl,hZ,hj⟩;have hA:=hid (hM.out.trans (hj.mono hM.out.size));have h6:=hid (HC.out.below hA.out);have hC:=hid (X0.out.below hj X0.out.lt);have hN:=hid (X1.out.below hj X1.out.lt);have hk:=h6.out.p.fed;obtain⟨A0,c0,h8,h2,_⟩:=hk.form;rw[h8]at hk;have hD:=hk.rd;obtain⟨n,hn⟩:∃n,M.fed.length=n:=⟨_,rfl⟩;rw[hn]at h8 h2 hD;have hm:9+p.length<=n:=by rw[<-hn];exact HL.out.1
 have c3:w1.cell? ⟨b,3,none⟩=some L.fed:=h6.out.blk.cell 3;rw[h8]at c3;have c5:w1.cell? ⟨b,5,none⟩=some (.int .i64 (M.preface:Nat)):=h6.out.blk.cell 5;rw[hX.out]at c5;have x0:w1.cell? ⟨w.heap.size,0,none⟩=some (.pointer (some ⟨b,0,none⟩)):=hC.out.cell 0;have h1:=fget_any A0 n c0 M.fed w1 w1.heap.size 16384 p.length hD (Nat.le_refl _) h2 h5.out.1 hY.out hm (by decide);rw[h5.out.2.1,h5.out.2.2.1,h5.out.2.2.2.1,h5.out.2.2.2.2.1]at h1;obtain⟨q,hq⟩:∃q,9+p.length=q:=⟨_,rfl⟩;rw[hq]at h1 hm;have hI:=hid h1;have hO:=hid h8;clear hk hZ hj h8 h1 hD hn;go_wp2_with fail;refine hI.out.mono ?_;rintro e w2 ⟨A1,c1,rfl,hP,h7⟩;have H9:=h7.size;have H0:=hid (h6.out.below h7);have hc:=hid ((hC.out.below h7 hC.out.lt).alloc (.cells #[.int .i64 (t:Nat),.int .i64 (f:Nat),.int .i64 (s:Nat),.slice A1 p.length c1] 24));have hJ:=hid ((hN.out.below h7 hN.out.lt).alloc (.cells #[.int .i64 (t:Nat),.int .i64 (f:Nat),.int .i64 (s:Nat),.slice A1 p.length c1] 24));have hQ:=hid (Blk.new w2 24 #[.int .i64 (t:Nat),.int .i64 (f:Nat),.int .i64 (s:Nat),.slice A1 p.length c1]);have hR:=hid (hA.out.trans (h7.mono hA.out.size));have H1:=hid (hR.out.alloc hR.out.size (.cells #[.int .i64 (t:Nat),.int .i64 (f:Nat),.int .i64 (s:Nat),.slice A1 p.length c1] 24));have hF:=hid (H0.out.alloc (.cells #[.int .i64 (t:Nat),.int .i64 (f:Nat),.int .i64 (s:Nat),.slice A1 p.length c1] 24));have hd:=hid (hP.alloc (.cells #[.int .i64 (t:Nat),.int .i64 (f:Nat),.int .i64 (s:Nat),.slice A1 p.length c1] 24));clear c3 c5 x0 h7 hP;go_upto_region 12 with fail;obtain⟨gf,H2⟩:∃g,w2.heap.size=g:=⟨_,rfl⟩;rw[H2]at hQ ⊢;generalize w2.alloc (.cells #[.int .i64 (t:Nat),.int .i64 (f:Nat),.int .i64 (s:Nat),.slice A1 p.length c1] 24)=W3 at*
 have c3:W3.cell? ⟨b,3,none⟩=some L.fed:=hF.out.blk.cell 3;rw[hO.out]at c3;have f3:=hF.out.blk.frozen 3;have x0:W3.cell? ⟨w.heap.size,0,none⟩=some (.pointer (some ⟨b,0,none⟩)):=hc.out.cell 0;obtain⟨A',hG⟩:∃A',(if c0=q then A0 else A0.map λy=>y.add q)=A':=⟨_,rfl⟩;have hK:∀W,(Instr.slice 22 (.slice A0 n c0) (some (.int .i64 (q:Int))) none none).run Tryz.prog W= .ok (.slice A' (n-q) (c0-q)) W:=λW=>by
  have:=run_from (P:=Tryz.prog) (t:=22) byteP A0 n c0 q hm h2 W;rw[hG]at this;exact this
 have HA:=hid hG;have Ha:=h6.out.blk.lt;have Hb:=HC.out.blk.lt;clear hG;go_upto_region 17 with fail;go_region;all_goals
  have hi:M.fed.drop q=r:=by rw[<-hq];exact h5.out.2.2.2.2.2
  have a2:=hF.out.cuts (k:=q) hO.out hm HA.out;have a3:CN ((W3.setCell ⟨b,3,none⟩ (.slice A' (n-q) (c0-q))).drew) ow b {M with fed:=M.fed.drop q} {L with fed:=.slice A' (n-q) (c0-q)}:=a2.1.drew;rw[hi]at a3;have H3:=hid a3;have hS:=hid (show Fr w ow ((W3.setCell ⟨b,3,none⟩ (.slice A' (n-q) (c0-q))).drew) ow from((Fr.below H1.out ow).trans a2.2).drew);have hL:=hid (show Blk ((W3.setCell ⟨b,3,none⟩ (.slice A' (n-q) (c0-q))).drew) w.heap.size 26 #[.pointer (some ⟨b,0,none⟩)]from hc.out.far (p:=⟨b,3,none⟩) (by show w.heap.size≠b;omega) _);have he:=hid (show Blk ((W3.setCell ⟨b,3,none⟩ (.slice A' (n-q) (c0-q))).drew) (w.heap.size+1) 4 #[.bool false]from hJ.out.far (p:=⟨b,3,none⟩) (by show w.heap.size+1≠b;omega) _);have ho:=hid (show Blk ((W3.setCell ⟨b,3,none⟩ (.slice A' (n-q) (c0-q))).drew) gf 24 #[.int .i64 (t:Nat),.int .i64 (f:Nat),.int .i64 (s:Nat),.slice A1 p.length c1]from hQ.out.far (p:=⟨b,3,none⟩) (by show gf≠b;omega) _);have hu:Ow (W3.setCell ⟨b,3,none⟩ (.slice A' (n-q) (c0-q))) w1.heap.size 5 (.slice A1 p.length c1) p.length p:=hd.out.grown (grown_setCell (World.grownBy.refl W3 (some b)) 3 _) (.inr λe=>by have:=(hd.out.lt e).2;omega);have H4:=hid (show Rd ((W3.setCell ⟨b,3,none⟩ (.slice A' (n-q) (c0-q))).drew) ((W3.setCell ⟨b,3,none⟩ (.slice A' (n-q) (c0-q))).drew).heap.size A1 p.length p from hu.rd);have H5:=hid (show p.length<=c1 by
   obtain⟨_,_,e3,h3,_⟩:=hu.form;injection e3 with _ _ e4
   omega)
  have H7:=hid (show 0<p.length->∀ad,A1=some ad->ow ad.block= .no fromλH8 ad ha=>by
   refine h6.out.new _ ?_;rcases hu.2 with⟨e,h0⟩|⟨g,cap,cur,e,hb,_⟩
   · omega
   · injection e with e
     rw[ha]at e;injection e with e
     rw[e];exact hb)
  have hU:=hid (show ow (w.heap.size+1)= .no from HC.out.new _ (by omega));clear a2 a3 hu c3 f3 x0 hK;generalize (W3.setCell ⟨b,3,none⟩ (.slice A' (n-q) (c0-q))).drew=W4 at*
  have x0:W4.cell? ⟨w.heap.size,0,none⟩=some (.pointer (some ⟨b,0,none⟩)):=hL.out.cell 0;have y0:W4.cell? ⟨gf,0,none⟩=some (.int .i64 (t:Nat)):=ho.out.cell 0;have y1:W4.cell? ⟨gf,1,none⟩=some (.int .i64 (f:Nat)):=ho.out.cell 1;have y2:W4.cell? ⟨gf,2,none⟩=some (.int .i64 (s:Nat)):=ho.out.cell 2;have y3:W4.cell? ⟨gf,3,none⟩=some (.slice A1 p.length c1):=ho.out.cell 3;go_wp2_with fail;refine(HT.out W4 ow b _ A1 c1 (HE.out.fr hS.out) H3.out H4.out H7.out H5.out).mono ?_;intro e w5 hH;obtain rfl:=hH.ret;obtain⟨M5,ow5,L5,hV,hW,hw⟩:=hH.out;have h4:=hid (hw.blk he.out hU.out);have hh:ow5 (w.heap.size+1)= .no:=hw.no _ he.out.lt hU.out;have z0:w5.cell? ⟨w.heap.size+1,0,none⟩=some (.bool false):=h4.out.cell 0;have zf:=h4.out.frozen 0;have HQ:=hid (show S M5/\CN w5 ow5 b M5 L5/\Fr w ow w5 ow5/\ow5 (w.heap.size+1)= .no from⟨hV,hW,hS.out.trans hw,hh⟩);clear hV hW hw hh x0 y0 y1 y2 y3 hH;go_wp2;refine leaves_cons (f:=68) (args:=#[.pointer (some ⟨w.heap.size+1,0,none⟩),.pointer (some ⟨w.heap.size,0,none⟩)]) (by simp) (by simp[go_sem]) ?_;refine(step1_idle _ _ _).mono ?_;rintro e u' w'' ⟨rfl,rfl,rfl⟩;exact⟨_,results_step _ _ (w.heap.size+1) _ rfl ((h4.out.put 0 _).cell 0),M5,HQ.out.1,ow5,_,rfl,HQ.out.2.1.nos HQ.out.2.2.2 0 _,HQ.out.2.2.1.put (by omega) 0 _⟩
theorem step_panicsF (M:Cv) (S1 S:Cv->Prop) (t f s c9 s9:Nat) (p r:List UInt8) (hc:M.preface=24) (hl:FParts M.fed t f s p r) (ht:t<=255) (hf:f<=255) (hs:s<=2147483647) (hp:p.length<=16384) (hT:TakesP {M with fed:=r} t f s p S1 c9 s9) (hF:∀M1,S1 M1->FaultT M1 c9 s9 S):StepT M true S:=by
 intro w ow b L hE h;have hQ:=hid (((Below.refl w.heap.size w).alloc (Nat.le_refl _) (.cells #[.pointer (some ⟨b,0,none⟩)] 26)).alloc (by simp) (.cells #[.bool false] 4));have X0:=hid ((Blk.new w 26 #[.pointer (some ⟨b,0,none⟩)]).alloc (.cells #[.bool false] 4));have X1:=hid (Blk.new (w.alloc (.cells #[.pointer (some ⟨b,0,none⟩)] 26)) 4 #[.bool false]);have HC:=hid h;have H1:=hid hc;have HL:=hid hl;have H2:=hid hF;clear hF;have HE:=hid hE;have HT:=hid hT;have h5:=hid hl.2;have H3:=hid hp;clear h hl hc hE hT ht hf hs hp;simp only[World.size_alloc]at X1;go_enter_defers Tryz.func40,Tryz.ntmps40;go_upto_region 1 with fail;generalize (w.alloc (.cells #[.pointer (some ⟨b,0,none⟩)] 26)).alloc (.cells #[.bool false] 4)=W0 at*
 have HP:=hid (preface_any W0);go_wp2_with fail;refine HP.out.mono ?_;rintro e w1 ⟨rfl,H4,ho⟩;have hD:=hid (hQ.out.trans (ho.mono hQ.out.size));have h6:=hid (HC.out.below hD.out);have hG:=hid (X0.out.below ho X0.out.lt);have hR:=hid (X1.out.below ho X1.out.lt);have hu:=h6.out.p.fed;obtain⟨A0,c0,h8,h2,_⟩:=hu.form;rw[h8]at hu;have hH:=hu.rd;obtain⟨n,hn⟩:∃n,M.fed.length=n:=⟨_,rfl⟩;rw[hn]at h8 h2 hH;have hw:9+p.length<=n:=by rw[<-hn];exact HL.out.1
 have c3:w1.cell? ⟨b,3,none⟩=some L.fed:=h6.out.blk.cell 3;rw[h8]at c3;have c5:w1.cell? ⟨b,5,none⟩=some (.int .i64 (M.preface:Nat)):=h6.out.blk.cell 5;rw[H1.out]at c5;have x0:w1.cell? ⟨w.heap.size,0,none⟩=some (.pointer (some ⟨b,0,none⟩)):=hG.out.cell 0;have h1:=fget_any A0 n c0 M.fed w1 w1.heap.size 16384 p.length hH (Nat.le_refl _) h2 h5.out.1 H3.out hw (by decide);rw[h5.out.2.1,h5.out.2.2.1,h5.out.2.2.2.1,h5.out.2.2.2.2.1]at h1;obtain⟨q,hq⟩:∃q,9+p.length=q:=⟨_,rfl⟩;rw[hq]at h1 hw;have hM:=hid h1;have hS:=hid h8;clear hu H4 ho h8 h1 hH hn;go_wp2_with fail;refine hM.out.mono ?_;rintro e w2 ⟨A1,c1,rfl,hU,h7⟩;have Ho:=h7.size;have H5:=hid (h6.out.below h7);have hd:=hid ((hG.out.below h7 hG.out.lt).alloc (.cells #[.int .i64 (t:Nat),.int .i64 (f:Nat),.int .i64 (s:Nat),.slice A1 p.length c1] 24));have hN:=hid ((hR.out.below h7 hR.out.lt).alloc (.cells #[.int .i64 (t:Nat),.int .i64 (f:Nat),.int .i64 (s:Nat),.slice A1 p.length c1] 24));have hV:=hid (Blk.new w2 24 #[.int .i64 (t:Nat),.int .i64 (f:Nat),.int .i64 (s:Nat),.slice A1 p.length c1]);have hW:=hid (hD.out.trans (h7.mono hD.out.size));have H7:=hid (hW.out.alloc hW.out.size (.cells #[.int .i64 (t:Nat),.int .i64 (f:Nat),.int .i64 (s:Nat),.slice A1 p.length c1] 24));have hI:=hid (H5.out.alloc (.cells #[.int .i64 (t:Nat),.int .i64 (f:Nat),.int .i64 (s:Nat),.slice A1 p.length c1] 24));have he:=hid (hU.alloc (.cells #[.int .i64 (t:Nat),.int .i64 (f:Nat),.int .i64 (s:Nat),.slice A1 p.length c1] 24));clear c3 c5 x0 h7 hU;go_upto_region 12 with fail;obtain⟨gf,H8⟩:∃g,w2.heap.size=g:=⟨_,rfl⟩;rw[H8]at hV ⊢;generalize w2.alloc (.cells #[.int .i64 (t:Nat),.int .i64 (f:Nat),.int .i64 (s:Nat),.slice A1 p.length c1] 24)=W3 at*
 have c3:W3.cell? ⟨b,3,none⟩=some L.fed:=hI.out.blk.cell 3;rw[hS.out]at c3;have f3:=hI.out.blk.frozen 3;have x0:W3.cell? ⟨w.heap.size,0,none⟩=some (.pointer (some ⟨b,0,none⟩)):=hd.out.cell 0;obtain⟨A',hJ⟩:∃A',(if c0=q then A0 else A0.map λy=>y.add q)=A':=⟨_,rfl⟩;have hO:∀W,(Instr.slice 22 (.slice A0 n c0) (some (.int .i64 (q:Int))) none none).run Tryz.prog W= .ok (.slice A' (n-q) (c0-q)) W:=λW=>by
  have:=run_from (P:=Tryz.prog) (t:=22) byteP A0 n c0 q hw h2 W;rw[hJ]at this;exact this
 have HA:=hid hJ;have Hp:=h6.out.blk.lt;have Hq:=HC.out.blk.lt;clear hJ;go_upto_region 17 with fail;go_region;all_goals
  have hk:M.fed.drop q=r:=by rw[<-hq];exact h5.out.2.2.2.2.2
  have a2:=hI.out.cuts (k:=q) hS.out hw HA.out;have a3:CN ((W3.setCell ⟨b,3,none⟩ (.slice A' (n-q) (c0-q))).drew) ow b {M with fed:=M.fed.drop q} {L with fed:=.slice A' (n-q) (c0-q)}:=a2.1.drew;rw[hk]at a3;have H9:=hid a3;have hX:=hid (show Fr w ow ((W3.setCell ⟨b,3,none⟩ (.slice A' (n-q) (c0-q))).drew) ow from((Fr.below H7.out ow).trans a2.2).drew);have hh:=hid (show Blk ((W3.setCell ⟨b,3,none⟩ (.slice A' (n-q) (c0-q))).drew) w.heap.size 26 #[.pointer (some ⟨b,0,none⟩)]from hd.out.far (p:=⟨b,3,none⟩) (by show w.heap.size≠b;omega) _);have hi:=hid (show Blk ((W3.setCell ⟨b,3,none⟩ (.slice A' (n-q) (c0-q))).drew) (w.heap.size+1) 4 #[.bool false]from hN.out.far (p:=⟨b,3,none⟩) (by show w.heap.size+1≠b;omega) _);have hA:=hid (show Blk ((W3.setCell ⟨b,3,none⟩ (.slice A' (n-q) (c0-q))).drew) gf 24 #[.int .i64 (t:Nat),.int .i64 (f:Nat),.int .i64 (s:Nat),.slice A1 p.length c1]from hV.out.far (p:=⟨b,3,none⟩) (by show gf≠b;omega) _);have hC:Ow (W3.setCell ⟨b,3,none⟩ (.slice A' (n-q) (c0-q))) w1.heap.size 5 (.slice A1 p.length c1) p.length p:=he.out.grown (grown_setCell (World.grownBy.refl W3 (some b)) 3 _) (.inr λe=>by have:=(he.out.lt e).2;omega);have Ha:=hid (show Rd ((W3.setCell ⟨b,3,none⟩ (.slice A' (n-q) (c0-q))).drew) ((W3.setCell ⟨b,3,none⟩ (.slice A' (n-q) (c0-q))).drew).heap.size A1 p.length p from hC.rd);have Hb:=hid (show p.length<=c1 by
   obtain⟨_,_,e3,h3,_⟩:=hC.form;injection e3 with _ _ e4
   omega)
  have Hc:=hid (show 0<p.length->∀ad,A1=some ad->ow ad.block= .no fromλHm ad ha=>by
   refine h6.out.new _ ?_;rcases hC.2 with⟨e,h0⟩|⟨g,cap,cur,e,hb,_⟩
   · omega
   · injection e with e
     rw[ha]at e;injection e with e
     rw[e];exact hb)
  have hY:=hid (show ow (w.heap.size+1)= .no from HC.out.new _ (by omega));have He:=hid (show ow w.heap.size= .no from HC.out.new _ (by omega));clear a2 a3 hC c3 f3 x0 hO;generalize (W3.setCell ⟨b,3,none⟩ (.slice A' (n-q) (c0-q))).drew=W4 at*
  have x0:W4.cell? ⟨w.heap.size,0,none⟩=some (.pointer (some ⟨b,0,none⟩)):=hh.out.cell 0;have y0:W4.cell? ⟨gf,0,none⟩=some (.int .i64 (t:Nat)):=hA.out.cell 0;have y1:W4.cell? ⟨gf,1,none⟩=some (.int .i64 (f:Nat)):=hA.out.cell 1;have y2:W4.cell? ⟨gf,2,none⟩=some (.int .i64 (s:Nat)):=hA.out.cell 2;have y3:W4.cell? ⟨gf,3,none⟩=some (.slice A1 p.length c1):=hA.out.cell 3;go_wp2_with fail;refine(HT.out W4 ow b _ A1 c1 (HE.out.fr hX.out) H9.out Ha.out Hc.out Hb.out).mono ?_;intro e w5 hK;obtain rfl:=hK.ret;obtain⟨M5,ow5,L5,hZ,H0,h9⟩:=hK.out;have h4:=hid (h9.blk hi.out hY.out);have hP:=hid (h9.blk hh.out He.out);have hj:ow5 (w.heap.size+1)= .no:=h9.no _ hi.out.lt hY.out;have HQ:=hid (show S1 M5/\CN w5 ow5 b M5 L5/\Fr w ow w5 ow5/\ow5 (w.heap.size+1)= .no from⟨hZ,H0,hX.out.trans h9,hj⟩);clear hZ H0 h9 hj x0 y0 y1 y2 y3 hK;go_wp2;refine leaves_cons (f:=68) (args:=#[.pointer (some ⟨w.heap.size+1,0,none⟩),.pointer (some ⟨w.heap.size,0,none⟩)]) (by simp) (by simp[go_sem]) ?_;refine(step1_fault w5 ow5 b (w.heap.size+1) w.heap.size M5 S L5 c9 s9 false HQ.out.2.1 h4.out hP.out HQ.out.2.2.2 (by omega) (λW Hg _=>H2.out M5 HQ.out.1 W ow5 b L5 Hg)).mono ?_;rintro e u' w'' ⟨rfl,rfl,Hh⟩;obtain⟨M6,ow6,L6,Hi,Hj,hL⟩:=Hh.out;have hm:=hL.blk (h4.out.put 0 (.bool true)) HQ.out.2.2.2;have Hl:=(HQ.out.2.2.1.put (w:=w) (g:=w.heap.size+1) (by omega) 0 (.bool true)).trans hL;have Hn:=hL.no (w.heap.size+1) (h4.out.put 0 (.bool true)).lt HQ.out.2.2.2;exact⟨_,results_step _ _ (w.heap.size+1) _ rfl (hm.cell 0),M6,Hi,ow6,_,rfl,Hj,Hl⟩
theorem frame_fp (t f s:Nat) (p r:List UInt8) (ht:t<=255) (hf:f<=255) (hs:s<=2147483647) (hp:p.length<=16384):FParts (frameB t f s p++r) t f s p r:=⟨by rw[List.length_append,frameB_len];omega,frame_parts t f s p r ht hf hs (by omega)⟩
theorem step_takes (M:Cv) (S:Cv->Prop) (t f s:Nat) (p r:List UInt8) (hp24:M.preface=24) (hl:M.fed=frameB t f s p++r) (ht:t<=255) (hf:f<=255) (hs:s<=2147483647) (hp:p.length<=16384) (hT:TakesT {M with fed:=r} t f s p S):StepT M true S:=
 step_takesF M S t f s p r hp24 (hl▸frame_fp t f s p r ht hf hs hp) ht hf hs hp hT
theorem step_panics (M:Cv) (S1 S:Cv->Prop) (t f s c9 s9:Nat) (p r:List UInt8) (hp24:M.preface=24) (hl:M.fed=frameB t f s p++r) (ht:t<=255) (hf:f<=255) (hs:s<=2147483647) (hp:p.length<=16384) (hT:TakesP {M with fed:=r} t f s p S1 c9 s9) (hF:∀M1,S1 M1->FaultT M1 c9 s9 S):StepT M true S:=
 step_panicsF M S1 S t f s c9 s9 p r hp24 (hl▸frame_fp t f s p r ht hf hs hp) ht hf hs hp hT hF
end Go.Proofs.YtkpppjhbmnfmkaaGreatDoor
end

section
set_option maxHeartbeats 4000000
set_option maxRecDepth 100000
namespace Go.Proofs.YtkpppjhbmnfmkaaGreatDoor
open Go.RowKit Go.Own Go.Own.Im Go.Own.Cx Go.Own.Fr
theorem CN.begins {w:World} {ow:Nat->Tg} {b:Nat} {M:Cv} {L:Lay} (h:CN w ow b M L) (id:Nat) (fin:Bool):
 CN ((w.alloc (.cells #[.int .i64 (id:Nat),.bool fin,.slice none 0 0] 195)).setCell ⟨b,16,none⟩ (.pointer (some ⟨w.heap.size,0,none⟩))) (upd ow w.heap.size .lst) b {M with list:=some (id,fin,[])} {L with list:=.pointer (some ⟨w.heap.size,0,none⟩)}/\
 Fr w ow ((w.alloc (.cells #[.int .i64 (id:Nat),.bool fin,.slice none 0 0] 195)).setCell ⟨b,16,none⟩ (.pointer (some ⟨w.heap.size,0,none⟩))) (upd ow w.heap.size .lst):=by
 have h0:ow w.heap.size= .no:=h.new _ (Nat.le_refl _);have hb:=(Below.refl w.heap.size w).alloc (Nat.le_refl _) (.cells #[.int .i64 (id:Nat),.bool fin,.slice none 0 0] 195);have h1:=(h.below hb).tag h0 (by simp) .lst;have h2:=h1.cell (M':={M with list:=some (id,fin,[])}) (L':={L with list:=.pointer (some ⟨w.heap.size,0,none⟩)}) 16 (.pointer (some ⟨w.heap.size,0,none⟩)) rfl
  ⟨h1.p.fed,h1.p.out,h1.p.ev,h1.p.inw,h1.p.ti,h1.p.outw,h1.p.tu,h1.p.map,h1.p.tm,h1.p.strs,⟨w.heap.size,.slice none 0 0,rfl,upd_same _ _ _,Blk.new w 195 _,Oz.nil _ _⟩,h1.p.enc,h1.p.dec⟩
 exact⟨h2.1,(Fr.belowTag hb ow (Nat.le_refl _) .lst).trans h2.2⟩
theorem works1_any (w:World) (ow:Nat->Tg) (b g:Nat) (M:Cv) (S:Cv->Prop) (L:Lay) (i:Inf) (sv dv sz:Value) (h:CN w ow b M L) (hg:Blk w g 26 #[.pointer (some ⟨b,0,none⟩)]) (h4:ow g= .no) (h0:M.side=2) (hid:i.stream % 2=1)
 (hp:∀W ow' L',CN W ow' b {M with list:=some (i.stream,i.endd,[])} L'->Fr w ow W ow'->Calls Tryz.prog 150 #[.pointer (some ⟨b,0,none⟩),.agg (infC i sv dv)] W (CPostS W ow' b S (.tuple #[]))):
 Calls Tryz.prog 149 #[.agg (infC i sv dv),sz,.pointer (some ⟨g,0,none⟩)] w (CPostS w ow b S (.tuple #[])):=by
 have HX:=Lib.hid (Blk.new w 91 (infC i sv dv));have h3:=Lib.hid ((Below.refl w.heap.size w).alloc (Nat.le_refl _) (.cells (infC i sv dv) 91));have HC:=Lib.hid h;have HG:=Lib.hid hg;have h9:=Lib.hid h4;have HP:=Lib.hid hp;have hm:((i.stream:Int).tmod 2)=1:=by
  have:((i.stream:Int).tmod 2)=((i.stream % 2:Nat):Int):=rfl;rw[this,hid];rfl
 have hf:((i.stream:Int) % 2)=1:=by
  have:((i.stream:Int) % 2)=((i.stream % 2:Nat):Int):=rfl;rw[this,hid];rfl
 have HS:=Lib.hid h0;clear h hg h4 hp h0;go_enter Tryz.func149,Tryz.ntmps149;go_upto_region 1 with fail;generalize w.alloc (.cells (infC i sv dv) 91)=W0 at*
 have h2:=Lib.hid (HC.out.below h3.out);have h5:=Lib.hid (HG.out.below h3.out HG.out.lt);have c0:W0.cell? ⟨b,0,none⟩=some (.int .i64 (M.side:Nat)):=h2.out.blk.cell 0;rw[HS.out]at c0;have g0:W0.cell? ⟨g,0,none⟩=some (.pointer (some ⟨b,0,none⟩)):=h5.out.cell 0;have x2:W0.cell? ⟨w.heap.size,2,none⟩=some (.int .i64 (i.stream:Nat)):=HX.out.cell 2;have x3:W0.cell? ⟨w.heap.size,3,none⟩=some (.bool i.endd):=HX.out.cell 3;go_upto_region 3 with fail;have HN:=Lib.hid (h2.out.begins i.stream i.endd);have f16:(W0.alloc (.cells #[.int .i64 (i.stream:Nat),.bool i.endd,.slice none 0 0] 195)).frozen? ⟨b,16,none⟩=false:=(h2.out.blk.alloc _).frozen 16;have y16:(W0.alloc (.cells #[.int .i64 (i.stream:Nat),.bool i.endd,.slice none 0 0] 195)).cell? ⟨b,16,none⟩=some L.list:=(h2.out.blk.alloc _).cell 16;go_upto_region 4 with fail;have hb:=Lib.hid HN.out.1;have h6:=Lib.hid ((Fr.below h3.out ow).trans HN.out.2);have h7:g≠b:=λe=>by have h1:=h9.out;rw[e,HC.out.tb]at h1;cases h1
 have h8:w.heap.size≠b:=by have:=HC.out.blk.lt;omega
 have hc:=Lib.hid ((h5.out.alloc (.cells #[.int .i64 (i.stream:Nat),.bool i.endd,.slice none 0 0] 195)).far (p:=⟨b,16,none⟩) h7 (.pointer (some ⟨W0.heap.size,0,none⟩)));have hd:=Lib.hid ((HX.out.alloc (.cells #[.int .i64 (i.stream:Nat),.bool i.endd,.slice none 0 0] 195)).far (p:=⟨b,16,none⟩) h8 (.pointer (some ⟨W0.heap.size,0,none⟩)));clear h7 h8 f16 y16 HN c0 g0 x2 x3;generalize (W0.alloc (.cells #[.int .i64 (i.stream:Nat),.bool i.endd,.slice none 0 0] 195)).setCell ⟨b,16,none⟩ (.pointer (some ⟨W0.heap.size,0,none⟩))=W1 at*
 have g0:W1.cell? ⟨g,0,none⟩=some (.pointer (some ⟨b,0,none⟩)):=hc.out.cell 0;have he:=Lib.hid (show(Tryz.prog.info? 91).map (·.size)=some (infC i sv dv).size from infSize);go_wp2_with (first
  |(refine wpList_rowGet _ rfl (.tmp 3) 91 rfl w.heap.size 91 _ rfl hd.out _ Tryz.underlying91 rfl he.out ?_)
  |fail)
 refine(HP.out W1 _ _ hb.out h6.out).mono ?_;intro e w2 hp;obtain rfl:=hp.ret;have HQ:=Lib.hid hp;clear hp;go_wp2;go_end0;exact HQ.out.trans h6.out
end Go.Proofs.YtkpppjhbmnfmkaaGreatDoor
end

section
namespace Go.Proofs.YtkpppjhbmnfmkaaGreatDoor
open Go.RowKit Go.Own Go.Own.Im Go.Own.Cx Go.Own.Fr
end Go.Proofs.YtkpppjhbmnfmkaaGreatDoor
end

section
set_option maxHeartbeats 8000000
set_option maxRecDepth 100000
namespace Go.Proofs.YtkpppjhbmnfmkaaGreatDoor
open Lib (hid)
open Go.RowKit Go.Own Go.Own.Im Go.Own.Cx Go.Own.Fr
attribute [local go_sem] Oper.semAt_some
theorem look_wn {w:World} {g m b t:Nat} (h:HM Tryz.prog 3 w g 9 (wkF m b)) (ht:t<=255) (hv:wkF m b (t:Int)=none):
 (Instr.lookup 201 (.map (some g)) (.int .i64 (t:Int)) false).run Tryz.prog w= .ok .nilFunc w:=by
 have hw:(Lit.int .i64 (t:Int)).wf=true:=by simp[Lit.wf,IntKind.min,IntKind.max,IntKind.bits,IntKind.signed];omega
 have:=h.look Tryz.underlying201 Tryz.underlying3 (zero_do w) hw;rw[hv]at this;exact this
def GiveQ (c s:Nat) (W:World) (e:Exit) (a:Act) (w:World):Prop:=e= .panic (fltE c s)/\a.defers=[]/\(w=W\/w=W.drew)
theorem neq_nil (w:World):(binOp .neq 200 .nilFunc .nilFunc).run Tryz.prog w= .ok (.bool false) w:=by kernel_rfl
theorem takes_bad (w:World) (ow:Nat->Tg) (b:Nat) (M:Cv) (L:Lay) (t f s:Nat) (A:Option Addr) (n c:Nat) (l:List UInt8) (x:Nat×Nat)
 (h:CN w ow b M L) (hr:Rd w w.heap.size A n l) (hk:0<n->∀ad,A=some ad->ow ad.block= .no) (hc:n<=c) (hn:n<=16384) (ht:t<=255) (hf:f<=255) (hs:s<=2147483647) (h3:∀W:World,Rd W w.heap.size A n l->w.heap.size<=W.heap.size->Calls Tryz.prog 104 #[.agg #[.int .i64 (t:Nat),.int .i64 (f:Nat),.int .i64 (s:Nat),.slice A n c]] W (OpPost W t f s l)) (hl:M.list=none) (h9:t≠9)
 (h7:M.greeted=true\/(t=4/\f&&& 1=0)) (ho:opn t f s l= .error x):
 Calls Tryz.prog 72 #[.pointer (some ⟨b,0,none⟩),.agg #[.int .i64 (t:Nat),.int .i64 (f:Nat),.int .i64 (s:Nat),.slice A n c]] w (PPostS w ow b (λM'=>M'={M with greeted:=true}) x.1 x.2):=by
 have HX:=hid (Blk.new w 24 #[.int .i64 (t:Nat),.int .i64 (f:Nat),.int .i64 (s:Nat),.slice A n c]);have hu:=hid ((Below.refl w.heap.size w).alloc (Nat.le_refl _) (.cells #[.int .i64 (t:Nat),.int .i64 (f:Nat),.int .i64 (s:Nat),.slice A n c] 24));have HC:=hid h;have HR:=hid hr;have hL:=hid hk;have HO:=hid ho;have hM:=hid h3;have e1:bits .and .i64 (f:Int) 1=((f&&& 1:Nat):Int):=and_nat f 1 (by omega) (by omega);obtain⟨q,hq⟩:∃q,f&&& 1=q:=⟨_,rfl⟩;rw[hq]at e1 h7;have hA:M.greeted=true\/(((t:Int) != 4)=false/\((q:Int) != 0)=false):=by
  rcases h7 with hg|⟨h1,h2⟩
  · exact .inl hg
  · subst h1 h2;exact .inr ⟨rfl,rfl⟩
 have hV:((t:Int)==9)=false:=by simp;omega
 have HL:=hid (show L.list= .pointer none from by have:=h.p.lst;rw[hl]at this;exact this);have hN:=hid hA;clear h hr hk ho hc hn ht hf hs h3 hl h9 h7 hq hA;go_enter Tryz.func72,Tryz.ntmps72;go_upto_region 1 with fail;generalize w.alloc (.cells #[.int .i64 (t:Nat),.int .i64 (f:Nat),.int .i64 (s:Nat),.slice A n c] 24)=W0 at*
 have h4:=hid (HC.out.below hu.out);have x0:W0.cell? ⟨w.heap.size,0,none⟩=some (.int .i64 (t:Nat)):=HX.out.cell 0;have x1:W0.cell? ⟨w.heap.size,1,none⟩=some (.int .i64 (f:Nat)):=HX.out.cell 1;have x2:W0.cell? ⟨w.heap.size,2,none⟩=some (.int .i64 (s:Nat)):=HX.out.cell 2;have c3:W0.cell? ⟨b,3,none⟩=some L.fed:=h4.out.blk.cell 3;have c4:W0.cell? ⟨b,4,none⟩=some (.bool M.greeted):=h4.out.blk.cell 4;have f4:=h4.out.blk.frozen 4;cases h5:M.greeted
 case' false=>
  have h8:=hN.out;rw[h5]at h8 c4;obtain⟨hO,hP⟩:=h8.resolve_left (by decide);clear h8 h5;go_upto_region 5 with fail;clear hO hP
 case' true=>
  rw[h5]at c4;clear h5;go_upto_region 5 with fail
 all_goals
  have hb:=h4.out.greets;have hC:=hid hb.1;have he:=hid ((Fr.below hu.out ow).trans hb.2);have h6:=hid (HX.out.far (p:=⟨b,4,none⟩) (by have:=HC.out.blk.lt;show w.heap.size≠b;omega) (.bool true));clear hb x0 x1 x2 c3 c4 f4;generalize W0.setCell ⟨b,4,none⟩ (.bool true)=W1 at*
  have x0:W1.cell? ⟨w.heap.size,0,none⟩=some (.int .i64 (t:Nat)):=h6.out.cell 0;have x1:W1.cell? ⟨w.heap.size,1,none⟩=some (.int .i64 (f:Nat)):=h6.out.cell 1;have x2:W1.cell? ⟨w.heap.size,2,none⟩=some (.int .i64 (s:Nat)):=h6.out.cell 2;have x3:W1.cell? ⟨w.heap.size,3,none⟩=some (.slice A n c):=h6.out.cell 3;have c16:W1.cell? ⟨b,16,none⟩=some L.list:=hC.out.blk.cell 16;rw[HL.out]at c16;go_wp2_with fail;go_quiet (fail);have hj:=hid (λn1=>hM.out (W1.drewN n1) (he.out.rd HR.out (Nat.le_refl _) hL.out) he.out.size);go_upto_region 8 with fail;go_wp2_with fail;refine(hj.out _).mono ?_;intro e w2 hp;obtain⟨hD,hm⟩:=hp;simp only[HO.out]at hm;obtain⟨a,rfl,ha,hE⟩:=hm;have hX:∀W,(Instr.typeAssert (.iface 196 (.pointer (some ⟨a,0,none⟩))) 28 196 true).run Tryz.prog W= .ok (.tuple #[.pointer (some ⟨a,0,none⟩),.bool true]) W:=λW=>by simp[Instr.typeAssert,go_sem]
  have hF:=hid (show Below W1.heap.size W1 w2 from bdN (Below.refl W1.heap.size W1) _ |>.trans hD);have hQ:=hid (hC.out.below hF.out);have hR:=hid (he.out.trans (Fr.below hF.out ow));have hG:=hid hE;clear hD ha hE x0 x1 x2 x3 c16;go_wp2_with (first
   |(refine wpList_rowPut _ rfl (.tmp 6) (.tmp 72) 91 rfl w2.heap.size 91 (infC {} (.slice none 0 0) (.slice none 0 0)) _ rfl rfl (Blk.new w2 91 _) infSize rfl (infC_one _ _ _ _ _ _ _) ?_
     intro W3 hS hH;have hh:=hid (((Below.refl w2.heap.size w2).alloc (Nat.le_refl _) (.cells (infC {} (.slice none 0 0) (.slice none 0 0)) 91)).grown hH (by simp) (λg e=>by injection e with e;omega));clear hS hH)
   |fail)
  have hI:=hid (hQ.out.below hh.out);have hJ:=hid (hR.out.trans (Fr.below hh.out ow));have hi:=hG.out.below hh.out hG.out.lt;have b0:W3.cell? ⟨a,0,none⟩=some (.int .i64 (x.1:Nat)):=hi.cell 0;have b1:W3.cell? ⟨a,1,none⟩=some (.int .i64 (x.2:Nat)):=hi.cell 1;clear hi;have h0:=hid (show W3.drew.cell? ⟨a,0,none⟩=some (.int .i64 (x.1:Nat))/\W3.drew.cell? ⟨a,1,none⟩=some (.int .i64 (x.2:Nat))from⟨b0,b1⟩);have hT:=hid (λW=>give_any x.1 x.2 W);have hU:=hid (show∀W,W=W3\/W=W3.drew->PPostS w ow b (λM'=>M'={M with greeted:=true}) x.1 x.2 (.panicked (fltE x.1 x.2)) W fromλW hW=>by
   rcases hW with rfl|rfl
   · exact⟨_,ow,L,rfl,rfl,hI.out,hJ.out⟩
   · exact⟨_,ow,L,rfl,rfl,hI.out.drew,hJ.out.drew⟩)
  have e0:=h0.out.1;have e1:=h0.out.2;refine Code.wp_mono (Q:=GiveQ x.1 x.2 W3) ?_ ?_
  · rintro e a' w' ⟨rfl,hd,hw⟩
    have HW:=hid (hU.out w' hw);have HD:=hid hd;clear hw hd;go_wp2;exact⟨HD.out,HW.out⟩
  · refine wp_region_held_drew (S:=(λW'=>W'.cell? ⟨a,0,none⟩=some (.int .i64 (x.1:Nat))/\W'.cell? ⟨a,1,none⟩=some (.int .i64 (x.2:Nat)))) (by kernel_rfl) h0.out (λhHeld=>?_)
    refine tk 0 ?_;refine tk 1 ?_;refine tk 2 ?_;refine tk 3 ?_;refine tk 4 ?_;refine tk 5 ?_;refine tk 6 ?_;refine tk 7 ?_;refine tkr 8 (λK hK=>?_);go_simp;go_at_call 70;with_reducible refine Calls.mono (hT.out _) ?_
    rintro e w4 ⟨rfl,hw⟩;subst w4;exact⟨rfl,rfl,by first|exact .inl rfl|exact .inr rfl⟩
theorem takes_none (w:World) (ow:Nat->Tg) (b:Nat) (M:Cv) (L:Lay) (t f s:Nat) (A:Option Addr) (n c:Nat) (l:List UInt8) (j:Inf)
 (h:CN w ow b M L) (hr:Rd w w.heap.size A n l) (hF:0<n->∀ad,A=some ad->ow ad.block= .no) (hc:n<=c) (hn:n<=16384) (ht:t<=255) (hf:f<=255) (hs:s<=2147483647) (h4:∀W:World,Rd W w.heap.size A n l->w.heap.size<=W.heap.size->Calls Tryz.prog 104 #[.agg #[.int .i64 (t:Nat),.int .i64 (f:Nat),.int .i64 (s:Nat),.slice A n c]] W (OpPost W t f s l)) (hl:M.list=none) (h9:t≠9)
 (hd:M.greeted=true\/(t=4/\f&&& 1=0)) (ho:opn t f s l= .ok j) (hG:∀g,wkF g b (t:Int)=none):
 Calls Tryz.prog 72 #[.pointer (some ⟨b,0,none⟩),.agg #[.int .i64 (t:Nat),.int .i64 (f:Nat),.int .i64 (s:Nat),.slice A n c]] w (CPostS w ow b (λM'=>M'={M with greeted:=true}) (.tuple #[])):=by
 have H5:=assert_nil;have HX:=hid (Blk.new w 24 #[.int .i64 (t:Nat),.int .i64 (f:Nat),.int .i64 (s:Nat),.slice A n c]);have hH:=hid ((Below.refl w.heap.size w).alloc (Nat.le_refl _) (.cells #[.int .i64 (t:Nat),.int .i64 (f:Nat),.int .i64 (s:Nat),.slice A n c] 24));have HC:=hid h;have hI:=hid hG;have HR:=hid hr;have hT:=hid hF;have HO:=hid ho;have HH:=hid (show _/\_/\_/\_/\_ from⟨hc,hn,ht,hf,hs⟩);have hU:=hid h4;have e1:bits .and .i64 (f:Int) 1=((f&&& 1:Nat):Int):=and_nat f 1 (by omega) (by omega);obtain⟨q,hq⟩:∃q,f&&& 1=q:=⟨_,rfl⟩;rw[hq]at e1 hd;have hJ:M.greeted=true\/(((t:Int) != 4)=false/\((q:Int) != 0)=false):=by
  rcases hd with hg|⟨h1,h2⟩
  · exact .inl hg
  · subst h1 h2;exact .inr ⟨rfl,rfl⟩
 have H7:((t:Int)==9)=false:=by simp;omega
 have HL:=hid (show L.list= .pointer none from by have:=h.p.lst;rw[hl]at this;exact this);have hV:=hid hJ;clear h hr hF hG ho hc hn ht hf hs h4 hl h9 hd hq hJ;go_enter Tryz.func72,Tryz.ntmps72;go_upto_region 1 with fail;generalize w.alloc (.cells #[.int .i64 (t:Nat),.int .i64 (f:Nat),.int .i64 (s:Nat),.slice A n c] 24)=W0 at*
 have h6:=hid (HC.out.below hH.out);have x0:W0.cell? ⟨w.heap.size,0,none⟩=some (.int .i64 (t:Nat)):=HX.out.cell 0;have x1:W0.cell? ⟨w.heap.size,1,none⟩=some (.int .i64 (f:Nat)):=HX.out.cell 1;have x2:W0.cell? ⟨w.heap.size,2,none⟩=some (.int .i64 (s:Nat)):=HX.out.cell 2;have c3:W0.cell? ⟨b,3,none⟩=some L.fed:=h6.out.blk.cell 3;have c4:W0.cell? ⟨b,4,none⟩=some (.bool M.greeted):=h6.out.blk.cell 4;have f4:=h6.out.blk.frozen 4;cases h7:M.greeted
 case' false=>
  have he:=hV.out;rw[h7]at he c4;obtain⟨hW,hX⟩:=he.resolve_left (by decide);clear he h7;go_upto_region 5 with fail;clear hW hX
 case' true=>
  rw[h7]at c4;clear h7;go_upto_region 5 with fail
 all_goals
  have hh:=h6.out.greets;have hK:=hid hh.1;have hi:=hid ((Fr.below hH.out ow).trans hh.2);have h0:=hid (HX.out.far (p:=⟨b,4,none⟩) (by have:=HC.out.blk.lt;show w.heap.size≠b;omega) (.bool true));clear hh x0 x1 x2 c3 c4 f4;generalize W0.setCell ⟨b,4,none⟩ (.bool true)=W1 at*
  have x0:W1.cell? ⟨w.heap.size,0,none⟩=some (.int .i64 (t:Nat)):=h0.out.cell 0;have x1:W1.cell? ⟨w.heap.size,1,none⟩=some (.int .i64 (f:Nat)):=h0.out.cell 1;have x2:W1.cell? ⟨w.heap.size,2,none⟩=some (.int .i64 (s:Nat)):=h0.out.cell 2;have x3:W1.cell? ⟨w.heap.size,3,none⟩=some (.slice A n c):=h0.out.cell 3;have c16:W1.cell? ⟨b,16,none⟩=some L.list:=hK.out.blk.cell 16;rw[HL.out]at c16;go_wp2_with fail;go_quiet (fail);have hu:=hid (λn1=>hU.out (W1.drewN n1) (hi.out.rd HR.out (Nat.le_refl _) hT.out) hi.out.size);go_upto_region 8 with fail;go_wp2_with fail;refine(hu.out _).mono ?_;intro e w2 hp;obtain⟨hL,hm⟩:=hp;simp only[HO.out]at hm;obtain⟨sv,dv,rfl,hM,hN⟩:=hm;obtain⟨A5,c5,rfl,_,_⟩:=hM.form;obtain⟨A6,c6,rfl,_,_,_⟩:=hN.form;have h8:=hid (show Below W1.heap.size W1 w2 from bdN (Below.refl W1.heap.size W1) _ |>.trans hL);have hY:=hid (hK.out.below h8.out);have hZ:=hid (hi.out.trans (Fr.below h8.out ow));clear hL hM hN x0 x1 x2 x3 c16;go_upto_region 12 with(first
   |(refine wpList_rowPut _ rfl (.tmp 6) (.tmp 72) 91 rfl w2.heap.size 91 (infC {} (.slice none 0 0) (.slice none 0 0)) _ rfl rfl (Blk.new w2 91 _) infSize rfl (infC_one _ _ _ _ _ _ _) ?_
     intro W3 H0 hO;have hj:=hid (((Below.refl w2.heap.size w2).alloc (Nat.le_refl _) (.cells (infC {} (.slice none 0 0) (.slice none 0 0)) 91)).grown hO (by simp) (λg e=>by injection e with e;omega));clear H0 hO)
   |fail)
  have hw:=hid (h8.out.trans (hj.out.mono h8.out.size));have H1:=hid (hY.out.below hj.out);have hb:=hid (h0.out.below hw.out h0.out.lt);have H2:=hid (hZ.out.trans (Fr.below hj.out ow));have H3:=hid (show W3.cell? ⟨w.heap.size,0,none⟩=some (.int .i64 (t:Nat))from hb.out.cell 0);have hA:=hid (show W3.drew.cell? ⟨w.heap.size,0,none⟩=some (.int .i64 (t:Nat))from hb.out.cell 0);have H4:=hid (λW=>works_any b W);go_region_held3 (λW'=>W'.cell? ⟨w.heap.size,0,none⟩=some (.int .i64 (t:Nat))) (first|with_reducible exact H3.out|with_reducible exact hA.out|with_reducible exact hP.out|with_reducible exact hC.out) (first
   |(go_at_call 115
     with_reducible refine Calls.mono (H4.out _) ?_
     rintro e w4 ⟨rfl,hD,hk,h3⟩;have h3:Below W3.heap.size W3 w4:=below_of_drew h3;have hQ:=hid h3;have hE:(Instr.lookup 201 (.map (some (W3.heap.size+1))) (.int .i64 (t:Int)) false).run Tryz.prog w4= .ok .nilFunc w4:=look_wn (t:=t) hk HH.out.2.2.1 (hI.out _);have h5:(Instr.lookup 201 (.map (some (W3.heap.size+1))) (.int .i64 (t:Int)) false).run Tryz.prog w4.drew= .ok .nilFunc w4.drew:=look_wn (t:=t) (w:=w4.drew) hk HH.out.2.2.1 (hI.out _);have hP:=hid (show w4.cell? ⟨w.heap.size,0,none⟩=some (.int .i64 (t:Nat))from(hb.out.below h3 hb.out.lt).cell 0);have hC:=hid (show w4.drew.cell? ⟨w.heap.size,0,none⟩=some (.int .i64 (t:Nat))from hP.out);clear hD hk h3)
   |fail)
 all_goals
  have hR:=hid (H1.out.below hQ.out);have hS:=hid (H2.out.trans (Fr.below hQ.out ow));clear hE h5;have H8:=neq_nil;go_wp2;go_end0;exact⟨_,rfl,ow,L,rfl,by first|exact hR.out|exact hR.out.drew,by first|exact hS.out|exact hS.out.drew⟩
end Go.Proofs.YtkpppjhbmnfmkaaGreatDoor
end

section
set_option maxHeartbeats 8000000
set_option maxRecDepth 100000
namespace Go.Proofs.YtkpppjhbmnfmkaaGreatDoor
open Lib (hid)
open Go.RowKit Go.Own Go.Own.Im Go.Own.Cx Go.Own.Fr
theorem EndsF.same {w:World} {ow:Nat->Tg} {a c:Addr} (h:EndsF w ow a c):(binOp .eql 28 (.iface 327 (.pointer (some c))) (.iface 327 (.pointer (some c)))).run Tryz.prog w= .ok (.bool true) w:=by
 obtain⟨i,hi,h0⟩:=Option.map_eq_some_iff.1 (show(Tryz.prog.info? 327).map (·.comparable)=some true by kernel_rfl);obtain⟨j,hj,h1⟩:=Option.map_eq_some_iff.1 (show(Tryz.prog.info? 329).map (·.size)=some 1 by kernel_rfl);exact run_eql_iface_ptr_same (P:=Tryz.prog) w c Tryz.underlying28 Tryz.underlying327 hi h0 hj
theorem fget_long (A:Option Addr) (n c:Nat) (l:List UInt8) (w:World) (B:Nat) (most:Nat) (eE:Value) (hr:Rd w B A n l) (hB:B<=w.heap.size) (hc:n<=c) (h9:¬n<9) (hn:most<ofB 0 (l.take 3)) (hm:most<=16777215)
 (he:w.cell? ⟨5,0,none⟩=some eE) (hg:5<w.heap.size):
 Calls Tryz.prog 71 #[.slice A n c,.int .i64 (most:Int)] w λe w'=>e= .returned (.tuple #[.agg #[.int .i64 0,.int .i64 0,.int .i64 0,.slice none 0 0],.int .i64 0,eE])/\Below w.heap.size w w':=by
 have HR:=hid hr;clear hr;go_enter Tryz.func71,Tryz.ntmps71;go_upto_region 1 with fail;have HX:=hid (Blk.new w 24 #[.int .i64 0,.int .i64 0,.int .i64 0,.slice none 0 0]);have h0:=hid ((Below.refl w.heap.size w).alloc (Nat.le_refl _) (.cells #[.int .i64 0,.int .i64 0,.int .i64 0,.slice none 0 0] 24));have h2:(w.alloc (.cells #[.int .i64 0,.int .i64 0,.int .i64 0,.slice none 0 0] 24)).cell? ⟨5,0,none⟩=some eE:=(h0.out.cell (p:=⟨5,0,none⟩) hg).trans he;generalize w.alloc (.cells #[.int .i64 0,.int .i64 0,.int .i64 0,.slice none 0 0] 24)=w0 at HX h0 h2 ⊢;have h3:=hid ((HR.out.more hB).below h0.out);have f0:=HX.out.frozen 0;have f1:=HX.out.frozen 1;have f2:=HX.out.frozen 2;have f3:=HX.out.frozen 3;have c0:w0.cell? ⟨w.heap.size,0,none⟩=_:=HX.out.cell 0;have c1:w0.cell? ⟨w.heap.size,1,none⟩=_:=HX.out.cell 1;have c2:w0.cell? ⟨w.heap.size,2,none⟩=_:=HX.out.cell 2;have c3:w0.cell? ⟨w.heap.size,3,none⟩=_:=HX.out.cell 3;simp only[List.getElem?_toArray,List.getElem?_cons_zero,List.getElem?_cons_succ]at c0 c1 c2 c3;have h6:((n:Int)<9)=False:=by simp;omega
 obtain⟨A',h1,h4⟩:=cut_head byteP h3.out (3:Int) (k:=3) rfl (by omega) hc;have HO:=hid (of_any A' 3 c (l.take 3) w0 _ h1 (by omega));obtain⟨m,hm⟩:∃m,ofB 0 (l.take 3)=m:=⟨_,rfl⟩;rw[hm]at HO hn;have h7:((m:Int)>(most:Int))=True:=by simp;omega
 have h5:((most:Int)<(m:Int))=True:=by simp;omega
 clear hm hn h1;go_upto_region 5 with(first
  |(go_at_call 113
    refine HO.out.mono ?_;rintro e w' ⟨rfl,hw⟩;subst w')
  |fail)
 go_region;all_goals
  go_wp2;refine bodyPost_ret (results_get _ _ w.heap.size _ _ _ _ _ _ rfl rfl rfl (Blk.four_put HX.out rfl _ _ _ _)) rfl ?_;exact⟨rfl,below_drew (below_four h0.out (Nat.le_refl _) _ _ _ _)⟩
theorem step_long (M:Cv) (S:Cv->Prop) (h3:M.preface=24) (hl:9<=M.fed.length) (hp:16384<ofB 0 (M.fed.take 3)) (hF:FaultT M 6 0 S):StepT M true S:=by
 intro w ow b L hE h;have hi:=hid (((Below.refl w.heap.size w).alloc (Nat.le_refl _) (.cells #[.pointer (some ⟨b,0,none⟩)] 26)).alloc (by simp) (.cells #[.bool false] 4));have X0:=hid ((Blk.new w 26 #[.pointer (some ⟨b,0,none⟩)]).alloc (.cells #[.bool false] 4));have X1:=hid (Blk.new (w.alloc (.cells #[.pointer (some ⟨b,0,none⟩)] 26)) 4 #[.bool false]);have HC:=hid h;have hs:=hid h3;have HL:=hid hl;have HE:=hid hE;have ht:=hid hF;have hu:=hid hp;clear h hl h3 hE hF hp;simp only[World.size_alloc]at X1;go_enter_defers Tryz.func40,Tryz.ntmps40;go_upto_region 1 with fail;generalize (w.alloc (.cells #[.pointer (some ⟨b,0,none⟩)] 26)).alloc (.cells #[.bool false] 4)=W0 at*
 have HP:=hid (preface_any W0);go_wp2_with fail;refine HP.out.mono ?_;rintro e w1 ⟨rfl,hA,h6⟩;have h7:=hid (hi.out.trans (h6.mono hi.out.size));have h8:=hid (HC.out.below h7.out);have h9:=hid (X0.out.below h6 X0.out.lt);have hj:=hid (X1.out.below h6 X1.out.lt);have h2:=h8.out.p.fed;obtain⟨A0,c0,hb,hc,_⟩:=h2.form;rw[hb]at h2;have hO:=h2.rd;have hk:=hid (HE.out.fr (Fr.below h7.out ow));have hC:=hid h2.rd;have c3:w1.cell? ⟨b,3,none⟩=some L.fed:=h8.out.blk.cell 3;rw[hb]at c3;have c5:w1.cell? ⟨b,5,none⟩=some (.int .i64 (M.preface:Nat)):=h8.out.blk.cell 5;rw[hs.out]at c5;have x0:w1.cell? ⟨w.heap.size,0,none⟩=some (.pointer (some ⟨b,0,none⟩)):=h9.out.cell 0;obtain⟨ae,al,h0⟩:=hk.out.ends;have hD:=hid h0;have HG:=hid (show 5<w1.heap.size from Nat.lt_of_lt_of_le (by decide) hk.out.room);have hd:=hid (fget_long A0 M.fed.length c0 M.fed w1 w1.heap.size 16384 _ hC.out (Nat.le_refl _) hc (by have:=HL.out;omega) hu.out (by decide) h0.l HG.out);clear h2 hA h6 hb;go_wp2_with fail;refine hd.out.mono ?_;rintro e w2 ⟨rfl,h1⟩;have hG:=hid (h8.out.below h1);have he:=hid (h9.out.below h1 h9.out.lt);have hf:=hid (hj.out.below h1 hj.out.lt);have hm:=hid (h7.out.trans (h1.mono h7.out.size));have hH:=hid (hm.out.alloc hm.out.size (.cells #[.int .i64 0,.int .i64 0,.int .i64 0,.slice none 0 0] 24));have hn:=hid ((hD.out.fr (Fr.below h1 ow)).fr (Fr.below ((Below.refl w2.heap.size w2).alloc (Nat.le_refl _) (.cells #[.int .i64 0,.int .i64 0,.int .i64 0,.slice none 0 0] 24)) ow));have hI:=hid (hG.out.alloc (.cells #[.int .i64 0,.int .i64 0,.int .i64 0,.slice none 0 0] 24));have hh:=hid (he.out.alloc (.cells #[.int .i64 0,.int .i64 0,.int .i64 0,.slice none 0 0] 24));have h4:=hid (hf.out.alloc (.cells #[.int .i64 0,.int .i64 0,.int .i64 0,.slice none 0 0] 24));clear c3 c5 x0 h1 h0;go_upto_region 12 with fail;generalize w2.alloc (.cells #[.int .i64 0,.int .i64 0,.int .i64 0,.slice none 0 0] 24)=W3 at*
 have g1:=hn.out.l;have hP:(binOp .eql 28 (.iface 327 (.pointer (some al))) (.iface 327 (.pointer (some al)))).run Tryz.prog W3= .ok (.bool true) W3:=hn.out.same;have ho:=hid (show ow (w.heap.size+1)= .no from HC.out.new _ (by omega));go_wp2_with fail;refine(give_any 6 0 _).mono ?_;rintro e w5 ⟨rfl,hw⟩;subst w5;go_wp2;refine leaves_cons (f:=68) (args:=#[.pointer (some ⟨w.heap.size+1,0,none⟩),.pointer (some ⟨w.heap.size,0,none⟩)]) (by simp) (by simp[go_sem]) ?_;refine(step1_fault W3 ow b (w.heap.size+1) w.heap.size M S L 6 0 false hI.out h4.out hh.out ho.out (by omega) (λW hJ _=>ht.out W ow b L hJ)).mono ?_;rintro e u' w'' ⟨rfl,rfl,hK⟩;obtain⟨M6,ow6,L6,hL,hM,hq⟩:=hK.out;have h5:=hq.blk (h4.out.put 0 (.bool true)) ho.out;have hN:=((Fr.below hH.out ow).put (w:=w) (g:=w.heap.size+1) (by omega) 0 (.bool true)).trans hq;exact⟨_,results_step _ _ (w.heap.size+1) _ rfl (h5.cell 0),M6,hL,ow6,_,rfl,hM,hN⟩
end Go.Proofs.YtkpppjhbmnfmkaaGreatDoor
end

section
namespace Go.Proofs.YtkpppjhbmnfmkaaGreatDoor
open Go.RowKit Go.Own Go.Own.Fr Go.Own.Im
attribute [local go_sem] Oper.semAt_some
end Go.Proofs.YtkpppjhbmnfmkaaGreatDoor
end

section
namespace Go.Proofs.YtkpppjhbmnfmkaaGreatDoor
open Go.RowKit Go.Own Go.Own.Fr Go.Own.Im
attribute [local go_sem] Oper.semAt_some
end Go.Proofs.YtkpppjhbmnfmkaaGreatDoor
end

section
set_option maxHeartbeats 8000000
set_option maxRecDepth 100000
namespace Go.Proofs.YtkpppjhbmnfmkaaGreatDoor
open Lib (hid)
open Go.RowKit Go.Own Go.Own.Im Go.Own.Cx Go.Own.Fr
theorem step_short (M:Cv) (hp:M.preface=24) (hl:M.fed.length<9\/(ofB 0 (M.fed.take 3)<=16384/\M.fed.length<9+ofB 0 (M.fed.take 3))):StepT M false (λM'=>M'=M):=by
 intro w ow b L hE h;have hc:=hid (((Below.refl w.heap.size w).alloc (Nat.le_refl _) (.cells #[.pointer (some ⟨b,0,none⟩)] 26)).alloc (by simp) (.cells #[.bool false] 4));have X0:=hid ((Blk.new w 26 #[.pointer (some ⟨b,0,none⟩)]).alloc (.cells #[.bool false] 4));have X1:=hid (Blk.new (w.alloc (.cells #[.pointer (some ⟨b,0,none⟩)] 26)) 4 #[.bool false]);have HC:=hid h;have hi:=hid hp;have HL:=hid hl;have HE:=hid hE;clear h hl hp hE;simp only[World.size_alloc]at X1;go_enter_defers Tryz.func40,Tryz.ntmps40;go_upto_region 1 with fail;generalize (w.alloc (.cells #[.pointer (some ⟨b,0,none⟩)] 26)).alloc (.cells #[.bool false] 4)=W0 at*
 have HP:=hid (preface_any W0);go_wp2_with fail;refine HP.out.mono ?_;rintro e w1 ⟨rfl,hj,h3⟩;have h4:=hid (hc.out.trans (h3.mono hc.out.size));have h5:=hid (HC.out.below h4.out);have hk:=hid (X0.out.below h3 X0.out.lt);have hd:=hid (X1.out.below h3 X1.out.lt);have he:=hid (HE.out.fr (Fr.below h4.out ow));have h6:=h5.out.p.fed;obtain⟨A0,c0,h7,h8,_⟩:=h6.form;rw[h7]at h6;have hm:=hid h6.rd;have c3:w1.cell? ⟨b,3,none⟩=some L.fed:=h5.out.blk.cell 3;rw[h7]at c3;have c5:w1.cell? ⟨b,5,none⟩=some (.int .i64 (M.preface:Nat)):=h5.out.blk.cell 5;rw[hi.out]at c5;have x0:w1.cell? ⟨w.heap.size,0,none⟩=some (.pointer (some ⟨b,0,none⟩)):=hk.out.cell 0;obtain⟨ae,al,h0⟩:=he.out.ends;have hn:=hid h0;have HG:=hid (show 10<w1.heap.size from Nat.lt_of_lt_of_le (by decide) he.out.room);have h9:=hid (fget_few A0 M.fed.length c0 M.fed w1 w1.heap.size 16384 _ hm.out (Nat.le_refl _) h8 HL.out (by decide) h0.e HG.out);clear h6 hj h3 h7;go_wp2_with fail;refine h9.out.mono ?_;rintro e w2 ⟨rfl,h2⟩;have ho:=hid (h5.out.below h2);have hb:=hid (hd.out.below h2 hd.out.lt);have hf:=hid (h4.out.trans (h2.mono h4.out.size));have hq:=hid (hf.out.alloc hf.out.size (.cells #[.int .i64 0,.int .i64 0,.int .i64 0,.slice none 0 0] 24));have hh:=hid ((hn.out.fr (Fr.below h2 ow)).fr (Fr.below ((Below.refl w2.heap.size w2).alloc (Nat.le_refl _) (.cells #[.int .i64 0,.int .i64 0,.int .i64 0,.slice none 0 0] 24)) ow));have hs:=hid (ho.out.alloc (.cells #[.int .i64 0,.int .i64 0,.int .i64 0,.slice none 0 0] 24));have h1:=hid (hb.out.alloc (.cells #[.int .i64 0,.int .i64 0,.int .i64 0,.slice none 0 0] 24));clear c3 c5 x0 h2 h0;go_upto_region 12 with fail;generalize w2.alloc (.cells #[.int .i64 0,.int .i64 0,.int .i64 0,.slice none 0 0] 24)=W3 at*
 have g1:=hh.out.l;have ht:=hh.out.eql;have y0:W3.cell? ⟨w.heap.size+1,0,none⟩=some (.bool false):=h1.out.cell 0;have yf:=h1.out.frozen 0;go_wp2;refine leaves_cons (f:=68) (args:=#[.pointer (some ⟨w.heap.size+1,0,none⟩),.pointer (some ⟨w.heap.size,0,none⟩)]) (by simp) (by simp[go_sem]) ?_;refine(step1_idle _ _ _).mono ?_;rintro e u' w'' ⟨rfl,rfl,rfl⟩;exact⟨_,results_step _ _ (w.heap.size+1) _ rfl ((h1.out.put 0 _).cell 0),M,rfl,ow,_,rfl,hs.out.nos (HC.out.new _ (by omega)) 0 _,(Fr.below hq.out ow).put (by omega) 0 _⟩
theorem step_prefnone (M:Cv) (hx:M.preface<24) (hl:M.fed=[]):StepT M false (λM'=>M'=M):=by
 intro w ow b L hE h;have h4:=hid (((Below.refl w.heap.size w).alloc (Nat.le_refl _) (.cells #[.pointer (some ⟨b,0,none⟩)] 26)).alloc (by simp) (.cells #[.bool false] 4));have X0:=hid ((Blk.new w 26 #[.pointer (some ⟨b,0,none⟩)]).alloc (.cells #[.bool false] 4));have X1:=hid (Blk.new (w.alloc (.cells #[.pointer (some ⟨b,0,none⟩)] 26)) 4 #[.bool false]);have HC:=hid h;have HL:=hid hl;have h9:=hx;clear h hx hl hE;simp only[World.size_alloc]at X1;go_enter_defers Tryz.func40,Tryz.ntmps40;go_upto_region 1 with fail;generalize (w.alloc (.cells #[.pointer (some ⟨b,0,none⟩)] 26)).alloc (.cells #[.bool false] 4)=W0 at*
 have HP:=hid (preface_any W0);go_wp2_with fail;refine HP.out.mono ?_;rintro e w1 ⟨rfl,h7,h0⟩;have h5:=hid (h4.out.trans (h0.mono h4.out.size));have h1:=hid (HC.out.below h5.out);have h8:=hid (X0.out.below h0 X0.out.lt);have h2:=hid (X1.out.below h0 X1.out.lt);have h3:=h1.out.p.fed;rw[HL.out]at h3;obtain⟨A0,c0,h6,hb,_⟩:=h3.form;have c3:w1.cell? ⟨b,3,none⟩=some L.fed:=h1.out.blk.cell 3;rw[h6]at c3;have c3:w1.cell? ⟨b,3,none⟩=some (.slice A0 0 c0):=c3;have c5:w1.cell? ⟨b,5,none⟩=some (.int .i64 (M.preface:Nat)):=h1.out.blk.cell 5;have x0:w1.cell? ⟨w.heap.size,0,none⟩=some (.pointer (some ⟨b,0,none⟩)):=h8.out.cell 0;have y0:w1.cell? ⟨w.heap.size+1,0,none⟩=some (.bool false):=h2.out.cell 0;have yf:=h2.out.frozen 0;have hc:(M.preface:Int)<24:=by omega
 clear h3 h7 h6 h0;go_wp2_with fail;refine leaves_cons (f:=68) (args:=#[.pointer (some ⟨w.heap.size+1,0,none⟩),.pointer (some ⟨w.heap.size,0,none⟩)]) (by simp) (by simp[go_sem]) ?_;refine(step1_idle _ _ _).mono ?_;rintro e u' w'' ⟨rfl,rfl,rfl⟩;exact⟨_,results_step _ _ (w.heap.size+1) _ rfl ((h2.out.put 0 _).cell 0),M,rfl,ow,_,rfl,h1.out.nos (HC.out.new _ (by omega)) 0 _,(Fr.below h5.out ow).put (by omega) 0 _⟩
theorem step_prefbad (M:Cv) (S:Cv->Prop) (x y:UInt8) (l:List UInt8) (hx:prefB[M.preface]?=some y) (hl:M.fed=x::l) (hne:x≠y) (hF:FaultT M 1 0 S):StepT M true S:=by
 intro w ow b L hE h;have h8:=hid (((Below.refl w.heap.size w).alloc (Nat.le_refl _) (.cells #[.pointer (some ⟨b,0,none⟩)] 26)).alloc (by simp) (.cells #[.bool false] 4));have X0:=hid ((Blk.new w 26 #[.pointer (some ⟨b,0,none⟩)]).alloc (.cells #[.bool false] 4));have X1:=hid (Blk.new (w.alloc (.cells #[.pointer (some ⟨b,0,none⟩)] 26)) 4 #[.bool false]);have HC:=hid h;have hj:=hid hx;have HL:=hid hl;have h7:=prefB_at hx;have h9:=hid hne;have hk:=hid hF;clear h hx hl hE hne hF;simp only[World.size_alloc]at X1;go_enter_defers Tryz.func40,Tryz.ntmps40;go_upto_region 1 with fail;generalize (w.alloc (.cells #[.pointer (some ⟨b,0,none⟩)] 26)).alloc (.cells #[.bool false] 4)=W0 at*
 have HP:=hid (preface_any W0);go_wp2_with fail;refine HP.out.mono ?_;rintro e w1 ⟨rfl,hb,h3⟩;have hc:=hid (h8.out.trans (h3.mono h8.out.size));have h4:=hid (HC.out.below hc.out);have hd:=hid (X0.out.below h3 X0.out.lt);have he:=hid (X1.out.below h3 X1.out.lt);have h0:=h4.out.p.fed;rw[HL.out]at h0;obtain⟨A0,c0,h6,ht,_⟩:=h0.form;rw[h6]at h0;obtain⟨ad,rfl,_,hcell⟩:=h0.rd.at_ (k:=0) (Nat.succ_pos _);have hcell:w1.cell? ad=some (.int .u8 (x.toNat:Int)):=hcell;obtain⟨ad2,e2,_,h5⟩:=hb.at_ (k:=M.preface) h7;injection e2 with e2
 subst e2;have h5:w1.cell? ⟨W0.heap.size,M.preface,none⟩=some (.int .u8 (y.toNat:Int)):=by
  have h1:prefB.getD M.preface 0=y:=by rw[List.getD,hj.out];rfl
  rw[h1]at h5;rw[Addr.add_lit,Nat.zero_add]at h5;exact h5
 have hu:((x.toNat:Int) != (y.toNat:Int))=true:=by
  have:x.toNat≠y.toNat:=λe=>h9.out (UInt8.toNat_inj.1 e);simp;omega
 have hi:((x.toNat:Int)==(y.toNat:Int))=false:=by
  have:x.toNat≠y.toNat:=λe=>h9.out (UInt8.toNat_inj.1 e);simp;omega
 have c3:w1.cell? ⟨b,3,none⟩=some L.fed:=h4.out.blk.cell 3;rw[h6]at c3;have c3:w1.cell? ⟨b,3,none⟩=some (.slice (some ad) (l.length+1) c0):=c3;have c5:w1.cell? ⟨b,5,none⟩=some (.int .i64 (M.preface:Nat)):=h4.out.blk.cell 5;have x0:w1.cell? ⟨w.heap.size,0,none⟩=some (.pointer (some ⟨b,0,none⟩)):=hd.out.cell 0;have hA:(M.preface:Int)<24:=by omega
 have hf:=hid (show ow (w.heap.size+1)= .no from HC.out.new _ (by omega));clear h0 hb h6 h3;go_wp2_with fail;go_quiet (fail);go_wp2_with fail;refine(give_any 1 0 _).mono ?_;rintro e w5 ⟨rfl,hw⟩;subst w5;go_wp2;refine leaves_cons (f:=68) (args:=#[.pointer (some ⟨w.heap.size+1,0,none⟩),.pointer (some ⟨w.heap.size,0,none⟩)]) (by simp) (by simp[go_sem]) ?_;refine(step1_fault (w1.drewN nq) ow b (w.heap.size+1) w.heap.size M S L 1 0 false (h4.out.drewN nq) (he.out.drewN nq) (hd.out.drewN nq) hf.out (by omega) (λW hm _=>hk.out W ow b L hm)).mono ?_;rintro e u' w'' ⟨rfl,rfl,hn⟩;obtain⟨M6,ow6,L6,ho,hq,hh⟩:=hn.out;have h2:=hh.blk ((he.out.drewN nq).put 0 (.bool true)) hf.out;have hs:=(((Fr.below hc.out ow).trans (Fr.drewN _ ow nq)).put (w:=w) (g:=w.heap.size+1) (by omega) 0 (.bool true)).trans hh;exact⟨_,results_step _ _ (w.heap.size+1) _ rfl (h2.cell 0),M6,ho,ow6,_,rfl,hq,hs⟩
end Go.Proofs.YtkpppjhbmnfmkaaGreatDoor
end
