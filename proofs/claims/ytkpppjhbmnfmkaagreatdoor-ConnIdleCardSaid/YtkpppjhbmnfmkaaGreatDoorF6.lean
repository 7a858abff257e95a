import Derived.Test.YtkpppjhbmnfmkaaGreatDoorJap
import Derived.Test.YtkpppjhbmnfmkaaGreatDoorJao
import Derived.Test.YtkpppjhbmnfmkaaGreatDoorD1
import Derived.Test.YtkpppjhbmnfmkaaGreatDoorJas
import Derived.Deep.RegionLaw
import Derived.Deep.RegionHeld3
import Derived.Deep.DrawnRows
set_option linter.unusedSimpArgs false
set_option linter.unusedVariables false
set_option maxHeartbeats 8000000
set_option maxRecDepth 100000
namespace Go.Proofs.YtkpppjhbmnfmkaaGreatDoor
open Go.RowKit Go.Own Go.Own.Im Go.Own.Cx Go.Own.Fr
attribute [local go_sem] Oper.semAt_some
theorem piece_any (w:World) (ow:Nat->Tg) (b:Nat) (M:Cv) (S:Cv->Prop) (L:Lay) (id:Nat) (fin:Bool) (l0 l1:List UInt8) (i:Inf) (sv:Value) (A:Option Addr) (n c:Nat) (hs:List Hd.HdrV) (m:Int) (h:CN w ow b M L) (H8:M.hp.dgone=false) (hL:M.list=some (id,fin,l0)) (he:i.endHeads=true) (hr:Rd w w.heap.size A n l1) (hc:n<=c) (hn:l0.length+n<=100)
 (H9:Ix (l0++l1) hs) (h8:M.side=2) (hk:knownB M id=false) (hq:strAt M (id:Int)=none) (hid:id<=2147483647) (hm:w.cell? ⟨13,0,none⟩=some (.int .i64 m)) (Ha:ow 13= .no)
 (Hb:∀W ow' L' A c,CN W ow' b {M with list:=none} L'->Fr w ow W ow'->hs.length<=c->Cm.RS hdrC 3 W W.heap.size A hs.length hs->(0<hs.length->∀ad,A=some ad->ow' ad.block= .evd)->Calls Tryz.prog 196 #[.pointer (some ⟨b,0,none⟩),.int .i64 (id:Nat),.slice A hs.length c,.bool fin] W (CPostS W ow' b S (.tuple #[]))):
 Calls Tryz.prog 150 #[.pointer (some ⟨b,0,none⟩),.agg (infC i sv (.slice A n c))] w (CPostS w ow b S (.tuple #[])):=by
 have HX:=Lib.hid (Blk.new w 91 (infC i sv (.slice A n c)));have hR:=Lib.hid ((Below.refl w.heap.size w).alloc (Nat.le_refl _) (.cells (infC i sv (.slice A n c)) 91));have HC:=Lib.hid h;have HR:=Lib.hid hr;have Hu:=Lib.hid Hb;have HH:=Lib.hid (show _/\_/\_/\_/\_/\_/\_ from⟨H9,h8,hk,hq,hid,hm,Ha⟩);have Hc:=Lib.hid hL;have HE:=Lib.hid he;have Hv:=Lib.hid H8;clear H8 h hr Hb H9 h8 hk hq hid hm Ha hL he;go_enter Tryz.func150,Tryz.ntmps150;go_upto_region 1 with fail;generalize w.alloc (.cells (infC i sv (.slice A n c)) 91)=W0 at*
 have hj:=Lib.hid (HC.out.below hR.out);have ht:=hj.out.p.lst;rw[Hc.out]at ht;obtain⟨gp,bv,hS,He,hT,hU⟩:=ht;obtain⟨A0,c0,rfl,_,_⟩:=hU.form;have c16:W0.cell? ⟨b,16,none⟩=some L.list:=hj.out.blk.cell 16;rw[hS]at c16;have p2:W0.cell? ⟨gp,2,none⟩=some (.slice A0 l0.length c0):=hT.cell 2;have x17:W0.cell? ⟨w.heap.size,17,none⟩=some (.slice A n c):=HX.out.cell 17;have x4:W0.cell? ⟨w.heap.size,4,none⟩=some (.bool i.endHeads):=HX.out.cell 4;rw[HE.out]at x4;have Hx:=Lib.hid (show Oz W0.drew (λg=>ow g= .blk) (.slice A0 l0.length c0) l0 from hU.drew);have Hy:=Lib.hid (show Rd W0.drew w.heap.size A n l1 from(HR.out.below hR.out).drew);have Hg:=Lib.hid He;have Hh:=Lib.hid (show Blk W0.drew gp 195 #[.int .i64 (id:Nat),.bool fin,.slice A0 l0.length c0]from hT);have hJ:=Lib.hid hS;have HB:=Lib.hid (show l0.length+n<=140737488355328 by omega);have HD:=Lib.hid (show Blk W0.drew w.heap.size 91 (infC i sv (.slice A n c))from HX.out);have HF:=Lib.hid (show Blk W0.drew b 80 (cnC M L)from hj.out.blk);have HG:=Lib.hid hj.out.tb;clear hU He hT hS;go_region_law
  ((refine step_app_z byteP _ (by rfl) (.tmp 18) (.tmp 20) (by rfl) (λg=>ow g= .blk) (.slice A0 l0.length c0) l0 (by rfl) Hx.out w.heap.size A n c l1 (by rfl) Hy.out HB.out ?_
    intro A8 c8 w8 row8 Hi hK hN;have HI:=Lib.hid Hi;have HK:=Lib.hid hK;have HN:=Lib.hid hN;have hV:=Hh.out.grown hK (λe=>by have h1:=(hN gp e.symm).1;rw[Hg.out]at h1;cases h1);have HO:w8.frozen? ⟨gp,2,none⟩=false:=hV.frozen 2;have HS:w8.cell? ⟨gp,2,none⟩=some (.slice A0 l0.length c0):=hV.cell 2;have Hj:=HF.out.grown hK (λe=>by have h1:=(hN b e.symm).1;rw[HG.out]at h1;cases h1);have hY:w8.cell? ⟨b,16,none⟩=some (.pointer (some ⟨gp,0,none⟩)):=by have h:=Hj.cell 16;rw[<-hJ.out];exact h
    clear hV Hj Hi hK hN))
 all_goals
  obtain⟨ow1,hO,hW,hA,hX⟩:=(show CN W0.drew ow b M L from hj.out.drew).blocks Hc.out hJ.out Hg.out Hh.out HI.out HK.out HN.out;have hP:=Lib.hid hO;have HT:=Lib.hid (show Fr w ow _ ow1 from((Fr.below hR.out ow).trans (Fr.drewN _ ow 1)).trans hW);have Hl:=Lib.hid hA;have Hm:=Lib.hid hX;have y16:(w8.setCell ⟨gp,2,none⟩ (.slice A8 (l0.length+n) c8)).cell? ⟨b,16,none⟩=some (.pointer (some ⟨gp,0,none⟩)):=by have h:=hO.blk.cell 16;rw[<-hJ.out];exact h
  have y2:(w8.setCell ⟨gp,2,none⟩ (.slice A8 (l0.length+n) c8)).cell? ⟨gp,2,none⟩=some (.slice A8 (l0.length+n) c8):=hX.cell 2;have yf:=hO.blk.frozen 16;have yx:(w8.setCell ⟨gp,2,none⟩ (.slice A8 (l0.length+n) c8)).cell? ⟨w.heap.size,4,none⟩=some (.bool true):=by
   have HU:ow w.heap.size= .no:=HC.out.new _ (Nat.le_refl _);have h1:=((hW.blk HD.out HU)).cell 4;rw[<-HE.out];exact h1
  clear hO hW hA hX HO HS hY;generalize w8.setCell ⟨gp,2,none⟩ (.slice A8 (l0.length+n) c8)=W9 at*
  go_wp2_with fail;have hu:=hP.out.unlists;have hd:=Lib.hid (HT.out.trans hu.2);have hC:(W9.setCell ⟨b,16,none⟩ (.pointer none)).cell? ⟨13,0,none⟩=some (.int .i64 m):=
   (World.cell?_of_block (hd.out.keep _ (World.block_lt_of_cell? w _ HH.out.2.2.2.2.2.1) HH.out.2.2.2.2.2.2)).trans HH.out.2.2.2.2.2.1
  obtain⟨g',bv',e1,_,b1,z1⟩:=hP.out.p.lst;obtain rfl:gp=g':=by
   have h1:=hJ.out.symm.trans e1;injection h1 with h1;injection h1 with h1;injection h1
  obtain rfl:Value.slice A8 (l0.length+n) c8=bv':=by
   have h1:=(Hm.out.cell 2).symm.trans (b1.cell 2)
   simpa using h1
  have Hn:l0.length+n<=c8:=by
   obtain⟨_,_,e3,h3,_⟩:=z1.form;injection e3 with _ e4 e5
   omega
  have Ho:=(z1.grown (grown_setCell (World.grownBy.refl W9 (some b)) 16 (.pointer none)) (λg e ho=>by injection e with e;rw[<-e,hP.out.tb]at ho;cases ho)).rd;obtain⟨tb,hl,_,_⟩:=hu.1.p.dec;have hl:Blk _ L.dec 137 #[.pointer (some ⟨tb,0,none⟩),.int .i64 4096,.bool M.hp.dgone]:=hl;rw[Hv.out]at hl;have HV:=Lib.hid (decode_any (W9.setCell ⟨b,16,none⟩ (.pointer none)).drew L.dec tb (.int .i64 4096) A8 (l0.length+n) c8 _ (l0++l1) hs m hl Ho.drew (Nat.le_refl _) Hn hn HH.out.1 hC);have hD:=Lib.hid hu.1;have hQ:=Lib.hid (Hm.out.far (p:=⟨b,16,none⟩) (λe=>by have h1:=Hl.out;simp only at e;rw[e,hP.out.tb]at h1;cases h1) (.pointer none));have Hp:=Lib.hid (show(W9.setCell ⟨b,16,none⟩ (.pointer none)).cell? ⟨b,22,none⟩=some (.pointer (some ⟨L.dec,0,none⟩))/\(W9.setCell ⟨b,16,none⟩ (.pointer none)).cell? ⟨gp,2,none⟩=some (.slice A8 (l0.length+n) c8)from⟨hu.1.blk.cell 22,hQ.out.cell 2⟩);have hZ:=Lib.hid (show(W9.setCell ⟨b,16,none⟩ (.pointer none)).drew.cell? ⟨b,22,none⟩=some (.pointer (some ⟨L.dec,0,none⟩))/\(W9.setCell ⟨b,16,none⟩ (.pointer none)).drew.cell? ⟨gp,2,none⟩=some (.slice A8 (l0.length+n) c8)from Hp.out);clear hu hC b1 z1 Hn Ho hl e1 y16 y2 yf yx;generalize W9.setCell ⟨b,16,none⟩ (.pointer none)=W10 at*
  go_region_held3 (λW'=>W'.cell? ⟨b,22,none⟩=some (.pointer (some ⟨L.dec,0,none⟩))/\W'.cell? ⟨gp,2,none⟩=some (.slice A8 (l0.length+n) c8)) (first|with_reducible exact Hp.out|with_reducible exact hZ.out|with_reducible exact Hq.out|with_reducible exact H0.out) (first
   |(go_at_call 194
     with_reducible refine Calls.mono HV.out ?_
     rintro e w11 ⟨A11,c11,rfl,hE,h9,hb,h4⟩;have h4:Below W10.heap.size W10 w11:=below_of_drew h4;have hF:=Lib.hid h4;have H1:=Lib.hid hE;have hG:=Lib.hid h9;have H2:=Lib.hid hb;have hh:=Lib.hid (hD.out.below h4);have h6:=Lib.hid (hQ.out.below h4 hQ.out.lt);have Hq:=Lib.hid (show w11.cell? ⟨b,22,none⟩=some (.pointer (some ⟨L.dec,0,none⟩))/\w11.cell? ⟨gp,2,none⟩=some (.slice A8 (l0.length+n) c8)from⟨hh.out.blk.cell 22,h6.out.cell 2⟩);have H0:=Lib.hid (show w11.drew.cell? ⟨b,22,none⟩=some (.pointer (some ⟨L.dec,0,none⟩))/\w11.drew.cell? ⟨gp,2,none⟩=some (.slice A8 (l0.length+n) c8)from Hq.out);clear h4 hE h9 hb)
   |fail)
 all_goals
  have H3:∃ow12,CN w11 ow12 b {M with list:=none} {L with list:=.pointer none}/\Fr w ow w11 ow12/\(0<hs.length->∀ad,A11=some ad->ow12 ad.block= .evd)/\ow12 gp= .no:=by
   have hH:offT ow1 gp= .no:=if_pos (.inl Hl.out);rcases Nat.eq_zero_or_pos hs.length with h0|h0
   · exact⟨offT ow1,hh.out,hd.out.trans (Fr.below hF.out _),λh=>absurd h (by omega),hH⟩
   · obtain⟨ad,ha,HW,_⟩:=hG.out.2 0 _ (List.getElem?_eq_getElem h0)
     have Hs:W10.heap.size<=ad.block:=H2.out h0 ad ha;exact⟨_,hh.out.tag (hD.out.new _ Hs) HW .evd,hd.out.trans (Fr.belowTag hF.out _ Hs .evd),λ_ ad2 h2=>by rw[ha]at h2;injection h2 with h2;subst h2;exact upd_same _ _ _,by rw[upd_other _ _ (by have:=hQ.out.lt;omega)];exact hH⟩
  obtain⟨ow12,h5,hi,hI,h7⟩:=H3;have H4:=Lib.hid hi;have Ht:(Lit.int .i64 (id:Int)).wf=true:=by have:=HH.out.2.2.2.2.1;simp[Lit.wf,IntKind.min,IntKind.max,IntKind.bits,IntKind.signed];omega
  have HY:=λn=>look_str (h5.drewN n) (id:Int) Ht;rw[at_none (show strAt {M with list:=none} (id:Int)=none from HH.out.2.2.2.1)]at HY;have c15:w11.cell? ⟨b,15,none⟩=some (.map (some L.mb)):=h5.blk.cell 15;have c0':w11.cell? ⟨b,0,none⟩=some (.int .i64 (M.side:Nat)):=h5.blk.cell 0;rw[HH.out.2.1]at c0';have q0:w11.cell? ⟨gp,0,none⟩=some (.int .i64 (id:Nat)):=h6.out.cell 0;have q1:w11.cell? ⟨gp,1,none⟩=some (.bool fin):=h6.out.cell 1;have HZ:=Lib.hid (λn=>(show Calls Tryz.prog 111 #[.pointer (some ⟨b,0,none⟩),.int .i64 (id:Nat)] (w11.drewN n) λe w'=>e= .returned (.bool false)/\w'=w11.drewN n from by
   have h1:=known_any (w11.drewN n) ow12 b _ _ id (h5.drewN n);rw[show decide (id % 2=1/\id<=({M with list:=none}:Cv).last)=false from HH.out.2.2.1]at h1;exact h1))
  have H5:=Lib.hid (λn=>Hu.out (w11.drewN n).drew ow12 _ A11 c11 (h5.drewN n).drew (hi.trans (Fr.drewN _ _ n)).drew H1.out (hG.out.keep (Nat.le_refl _) λ_ _ _ _=>rfl) hI);have g0:=Lib.hid (λn=>(show(w11.drewN n).cell? ⟨gp,0,none⟩=some (.int .i64 (id:Nat))/\(w11.drewN n).cell? ⟨gp,1,none⟩=some (.bool fin)from⟨q0,q1⟩));have g1:=Lib.hid (λn=>(show(w11.drewN n).drew.cell? ⟨gp,0,none⟩=some (.int .i64 (id:Nat))/\(w11.drewN n).drew.cell? ⟨gp,1,none⟩=some (.bool fin)from⟨q0,q1⟩));have g2:=Lib.hid (λn w13 ow' (hf:Fr (w11.drewN n).drew ow12 w13 ow')=>(show w13.cell? ⟨gp,0,none⟩=some (.int .i64 (id:Nat))/\w13.cell? ⟨gp,1,none⟩=some (.bool fin)from
   ⟨(World.cell?_of_block (a:=⟨gp,0,none⟩) (hf.keep gp h6.out.lt h7)).trans q0,(World.cell?_of_block (a:=⟨gp,1,none⟩) (hf.keep gp h6.out.lt h7)).trans q1⟩))
  clear h5 hi hI Ht h7;go_wp2_with fail;go_quiet (fail);go_wp2_with (first
   |(go_at_call 111
     refine Calls.mono (HZ.out _) ?_;rintro e w12 ⟨rfl,hw⟩;subst w12)
   |fail)
  go_region_held3 (λW'=>W'.cell? ⟨gp,0,none⟩=some (.int .i64 (id:Nat))/\W'.cell? ⟨gp,1,none⟩=some (.bool fin)) (first|with_reducible exact g0.out _|with_reducible exact g1.out _|with_reducible exact H7.out) (first
   |(go_at_call 196
     refine(H5.out _).mono ?_;intro e w13 hp;obtain rfl:=hp.ret;have HQ:=Lib.hid hp;have H7:=Lib.hid (show w13.cell? ⟨gp,0,none⟩=some (.int .i64 (id:Nat))/\w13.cell? ⟨gp,1,none⟩=some (.bool fin)from by
      obtain⟨_,ow',_,_,_,hf⟩:=hp.out;exact g2.out _ w13 ow' hf)
     clear hp)
   |fail)
 all_goals
  go_wp2;go_end0;exact HQ.out.trans ((H4.out.trans (Fr.drewN _ ow12 _)).drew)
end Go.Proofs.YtkpppjhbmnfmkaaGreatDoor
