import Derived.Test.YtkpppjhbmnfmkaaGreatDoorJap
import Derived.Test.YtkpppjhbmnfmkaaGreatDoorJar
import Derived.Test.YtkpppjhbmnfmkaaGreatDoorJan
import Derived.Test.YtkpppjhbmnfmkaaGreatDoorJab
import Derived.Deep.RegionLaw
import Derived.Deep.RegionHeld3
import Derived.Deep.DrawnRows
set_option linter.unusedSimpArgs false
set_option linter.unusedVariables false
set_option maxHeartbeats 8000000
set_option maxRecDepth 100000
namespace Go.Proofs.YtkpppjhbmnfmkaaGreatDoor
open Go.RowKit Go.Own Go.Own.Im Go.Own.Cx Go.Own.Fr
attribute [local go_sem] Oper.semAt_some
theorem piece_any (w:World) (ow:Nat->Tg) (b:Nat) (M:Cv) (S:Cv->Prop) (L:Lay) (id:Nat) (fin:Bool) (l0 l1:List UInt8) (i:Inf) (sv:Value) (A:Option Addr) (n c:Nat) (hs:List Hd.HdrV) (m:Int) (h:CN w ow b M L) (H7:M.hp.dgone=false) (hL:M.list=some (id,fin,l0)) (he:i.endHeads=true) (hr:Rd w w.heap.size A n l1) (hc:n<=c) (hn:l0.length+n<=100)
 (H8:Ix (l0++l1) hs) (h8:M.side=2) (hk:knownB M id=false) (hq:strAt M (id:Int)=none) (hid:id<=2147483647) (hm:w.cell? ⟨13,0,none⟩=some (.int .i64 m)) (H9:ow 13= .no)
 (Ha:∀W ow' L' A c,CN W ow' b {M with list:=none} L'->Fr w ow W ow'->hs.length<=c->Cm.RS hdrC 3 W W.heap.size A hs.length hs->(0<hs.length->∀ad,A=some ad->ow' ad.block= .evd)->Calls Tryz.prog 196 #[.pointer (some ⟨b,0,none⟩),.int .i64 (id:Nat),.slice A hs.length c,.bool fin] W (CPostS W ow' b S (.tuple #[]))):
 Calls Tryz.prog 150 #[.pointer (some ⟨b,0,none⟩),.agg (infC i sv (.slice A n c))] w (CPostS w ow b S (.tuple #[])):=by
 have HX:=Lib.hid (Blk.new w 91 (infC i sv (.slice A n c)));have hQ:=Lib.hid ((Below.refl w.heap.size w).alloc (Nat.le_refl _) (.cells (infC i sv (.slice A n c)) 91));have HC:=Lib.hid h;have HR:=Lib.hid hr;have Ht:=Lib.hid Ha;have HH:=Lib.hid (show _/\_/\_/\_/\_/\_/\_ from⟨H8,h8,hk,hq,hid,hm,H9⟩);have Hb:=Lib.hid hL;have HE:=Lib.hid he;have Hu:=Lib.hid H7;clear H7 h hr Ha H8 h8 hk hq hid hm H9 hL he;go_enter Tryz.func150,Tryz.ntmps150;go_upto_region 1 with fail;generalize w.alloc (.cells (infC i sv (.slice A n c)) 91)=W0 at*
 have hj:=Lib.hid (HC.out.below hQ.out);have ht:=hj.out.p.lst;rw[Hb.out]at ht;obtain⟨gp,bv,hR,Hc,hS,hT⟩:=ht;obtain⟨A0,c0,rfl,_,_⟩:=hT.form;have c16:W0.cell? ⟨b,16,none⟩=some L.list:=hj.out.blk.cell 16;rw[hR]at c16;have p2:W0.cell? ⟨gp,2,none⟩=some (.slice A0 l0.length c0):=hS.cell 2;have x17:W0.cell? ⟨w.heap.size,17,none⟩=some (.slice A n c):=HX.out.cell 17;have x4:W0.cell? ⟨w.heap.size,4,none⟩=some (.bool i.endHeads):=HX.out.cell 4;rw[HE.out]at x4;have Hv:=Lib.hid (show Oz W0.drew (λg=>ow g= .blk) (.slice A0 l0.length c0) l0 from hT.drew);have Hx:=Lib.hid (show Rd W0.drew w.heap.size A n l1 from(HR.out.below hQ.out).drew);have He:=Lib.hid Hc;have Hg:=Lib.hid (show Blk W0.drew gp 195 #[.int .i64 (id:Nat),.bool fin,.slice A0 l0.length c0]from hS);have hJ:=Lib.hid hR;have Hy:=Lib.hid (show l0.length+n<=140737488355328 by omega);have HB:=Lib.hid (show Blk W0.drew w.heap.size 91 (infC i sv (.slice A n c))from HX.out);have HD:=Lib.hid (show Blk W0.drew b 80 (cnC M L)from hj.out.blk);have HF:=Lib.hid hj.out.tb;clear hT Hc hS hR;go_region_law
  ((refine step_app_z byteP _ (by rfl) (.tmp 18) (.tmp 20) (by rfl) (λg=>ow g= .blk) (.slice A0 l0.length c0) l0 (by rfl) Hv.out w.heap.size A n c l1 (by rfl) Hx.out Hy.out ?_
    intro A8 c8 w8 row8 Hh hK hM;have HG:=Lib.hid Hh;have HI:=Lib.hid hK;have HK:=Lib.hid hM;have hU:=Hg.out.grown hK (λe=>by have h1:=(hM gp e.symm).1;rw[He.out]at h1;cases h1);have HN:w8.frozen? ⟨gp,2,none⟩=false:=hU.frozen 2;have HO:w8.cell? ⟨gp,2,none⟩=some (.slice A0 l0.length c0):=hU.cell 2;have Hi:=HD.out.grown hK (λe=>by have h1:=(hM b e.symm).1;rw[HF.out]at h1;cases h1);have hX:w8.cell? ⟨b,16,none⟩=some (.pointer (some ⟨gp,0,none⟩)):=by have h:=Hi.cell 16;rw[<-hJ.out];exact h
    clear hU Hi Hh hK hM))
 all_goals
  obtain⟨ow1,hN,hV,hA,hW⟩:=(show CN W0.drew ow b M L from hj.out.drew).blocks Hb.out hJ.out He.out Hg.out HG.out HI.out HK.out;have hO:=Lib.hid hN;have HS:=Lib.hid (show Fr w ow _ ow1 from((Fr.below hQ.out ow).trans (Fr.drewN _ ow 1)).trans hV);have Hj:=Lib.hid hA;have Hl:=Lib.hid hW;have y16:(w8.setCell ⟨gp,2,none⟩ (.slice A8 (l0.length+n) c8)).cell? ⟨b,16,none⟩=some (.pointer (some ⟨gp,0,none⟩)):=by have h:=hN.blk.cell 16;rw[<-hJ.out];exact h
  have y2:(w8.setCell ⟨gp,2,none⟩ (.slice A8 (l0.length+n) c8)).cell? ⟨gp,2,none⟩=some (.slice A8 (l0.length+n) c8):=hW.cell 2;have yf:=hN.blk.frozen 16;have yx:(w8.setCell ⟨gp,2,none⟩ (.slice A8 (l0.length+n) c8)).cell? ⟨w.heap.size,4,none⟩=some (.bool true):=by
   have HT:ow w.heap.size= .no:=HC.out.new _ (Nat.le_refl _);have h1:=((hV.blk HB.out HT)).cell 4;rw[<-HE.out];exact h1
  clear hN hV hA hW HN HO hX;generalize w8.setCell ⟨gp,2,none⟩ (.slice A8 (l0.length+n) c8)=W9 at*
  go_wp2_with fail;have hu:=hO.out.unlists;have hd:=Lib.hid (HS.out.trans hu.2);have hC:(W9.setCell ⟨b,16,none⟩ (.pointer none)).cell? ⟨13,0,none⟩=some (.int .i64 m):=
   (World.cell?_of_block (hd.out.keep _ (World.block_lt_of_cell? w _ HH.out.2.2.2.2.2.1) HH.out.2.2.2.2.2.2)).trans HH.out.2.2.2.2.2.1
  obtain⟨g',bv',e1,_,b1,z1⟩:=hO.out.p.lst;obtain rfl:gp=g':=by
   have h1:=hJ.out.symm.trans e1;injection h1 with h1;injection h1 with h1;injection h1
  obtain rfl:Value.slice A8 (l0.length+n) c8=bv':=by
   have h1:=(Hl.out.cell 2).symm.trans (b1.cell 2)
   simpa using h1
  have Hm:l0.length+n<=c8:=by
   obtain⟨_,_,e3,h3,_⟩:=z1.form;injection e3 with _ e4 e5
   omega
  have Hn:=(z1.grown (grown_setCell (World.grownBy.refl W9 (some b)) 16 (.pointer none)) (λg e ho=>by injection e with e;rw[<-e,hO.out.tb]at ho;cases ho)).rd;obtain⟨tb,hl,_,_⟩:=hu.1.p.dec;have hl:Blk _ L.dec 137 #[.pointer (some ⟨tb,0,none⟩),.int .i64 4096,.bool M.hp.dgone]:=hl;rw[Hu.out]at hl;have HU:=Lib.hid (decode_any (W9.setCell ⟨b,16,none⟩ (.pointer none)).drew L.dec tb (.int .i64 4096) A8 (l0.length+n) c8 _ (l0++l1) hs m hl Hn.drew (Nat.le_refl _) Hm hn HH.out.1 hC);have hD:=Lib.hid hu.1;have hP:=Lib.hid (Hl.out.far (p:=⟨b,16,none⟩) (λe=>by have h1:=Hj.out;simp only at e;rw[e,hO.out.tb]at h1;cases h1) (.pointer none));have Ho:=Lib.hid (show(W9.setCell ⟨b,16,none⟩ (.pointer none)).cell? ⟨b,22,none⟩=some (.pointer (some ⟨L.dec,0,none⟩))/\(W9.setCell ⟨b,16,none⟩ (.pointer none)).cell? ⟨gp,2,none⟩=some (.slice A8 (l0.length+n) c8)from⟨hu.1.blk.cell 22,hP.out.cell 2⟩);have hY:=Lib.hid (show(W9.setCell ⟨b,16,none⟩ (.pointer none)).drew.cell? ⟨b,22,none⟩=some (.pointer (some ⟨L.dec,0,none⟩))/\(W9.setCell ⟨b,16,none⟩ (.pointer none)).drew.cell? ⟨gp,2,none⟩=some (.slice A8 (l0.length+n) c8)from Ho.out);clear hu hC b1 z1 Hm Hn hl e1 y16 y2 yf yx;generalize W9.setCell ⟨b,16,none⟩ (.pointer none)=W10 at*
  go_region_held3 (λW'=>W'.cell? ⟨b,22,none⟩=some (.pointer (some ⟨L.dec,0,none⟩))/\W'.cell? ⟨gp,2,none⟩=some (.slice A8 (l0.length+n) c8)) (first|with_reducible exact Ho.out|with_reducible exact hY.out|with_reducible exact Hp.out|with_reducible exact hZ.out) (first
   |(go_at_call 194
     with_reducible refine Calls.mono HU.out ?_
     rintro e w11 ⟨A11,c11,rfl,hE,h9,hb,h4⟩;have h4:Below W10.heap.size W10 w11:=below_of_drew h4;have hF:=Lib.hid h4;have H0:=Lib.hid hE;have hG:=Lib.hid h9;have H1:=Lib.hid hb;have hh:=Lib.hid (hD.out.below h4);have h6:=Lib.hid (hP.out.below h4 hP.out.lt);have Hp:=Lib.hid (show w11.cell? ⟨b,22,none⟩=some (.pointer (some ⟨L.dec,0,none⟩))/\w11.cell? ⟨gp,2,none⟩=some (.slice A8 (l0.length+n) c8)from⟨hh.out.blk.cell 22,h6.out.cell 2⟩);have hZ:=Lib.hid (show w11.drew.cell? ⟨b,22,none⟩=some (.pointer (some ⟨L.dec,0,none⟩))/\w11.drew.cell? ⟨gp,2,none⟩=some (.slice A8 (l0.length+n) c8)from Hp.out);clear h4 hE h9 hb)
   |fail)
 all_goals
  have H2:∃ow12,CN w11 ow12 b {M with list:=none} {L with list:=.pointer none}/\Fr w ow w11 ow12/\(0<hs.length->∀ad,A11=some ad->ow12 ad.block= .evd)/\ow12 gp= .no:=by
   have hH:offT ow1 gp= .no:=if_pos (.inl Hj.out);rcases Nat.eq_zero_or_pos hs.length with h0|h0
   · exact⟨offT ow1,hh.out,hd.out.trans (Fr.below hF.out _),λh=>absurd h (by omega),hH⟩
   · obtain⟨ad,ha,HV,_⟩:=hG.out.2 0 _ (List.getElem?_eq_getElem h0)
     have Hq:W10.heap.size<=ad.block:=H1.out h0 ad ha;exact⟨_,hh.out.tag (hD.out.new _ Hq) HV .evd,hd.out.trans (Fr.belowTag hF.out _ Hq .evd),λ_ ad2 h2=>by rw[ha]at h2;injection h2 with h2;subst h2;exact upd_same _ _ _,by rw[upd_other _ _ (by have:=hP.out.lt;omega)];exact hH⟩
  obtain⟨ow12,h5,hi,hI,h7⟩:=H2;have H3:=Lib.hid hi;have Hs:(Lit.int .i64 (id:Int)).wf=true:=by have:=HH.out.2.2.2.2.1;simp[Lit.wf,IntKind.min,IntKind.max,IntKind.bits,IntKind.signed];omega
  have HW:=λn=>look_str (h5.drewN n) (id:Int) Hs;rw[at_none (show strAt {M with list:=none} (id:Int)=none from HH.out.2.2.2.1)]at HW;have c15:w11.cell? ⟨b,15,none⟩=some (.map (some L.mb)):=h5.blk.cell 15;have c0':w11.cell? ⟨b,0,none⟩=some (.int .i64 (M.side:Nat)):=h5.blk.cell 0;rw[HH.out.2.1]at c0';have q0:w11.cell? ⟨gp,0,none⟩=some (.int .i64 (id:Nat)):=h6.out.cell 0;have q1:w11.cell? ⟨gp,1,none⟩=some (.bool fin):=h6.out.cell 1;have HY:=Lib.hid (λn=>(show Calls Tryz.prog 111 #[.pointer (some ⟨b,0,none⟩),.int .i64 (id:Nat)] (w11.drewN n) λe w'=>e= .returned (.bool false)/\w'=w11.drewN n from by
   have h1:=known_any (w11.drewN n) ow12 b _ _ id (h5.drewN n);rw[show decide (id % 2=1/\id<=({M with list:=none}:Cv).last)=false from HH.out.2.2.1]at h1;exact h1))
  have H4:=Lib.hid (λn=>Ht.out (w11.drewN n).drew ow12 _ A11 c11 (h5.drewN n).drew (hi.trans (Fr.drewN _ _ n)).drew H0.out (hG.out.keep (Nat.le_refl _) λ_ _ _ _=>rfl) hI);have HZ:=Lib.hid (λn=>(show(w11.drewN n).cell? ⟨gp,0,none⟩=some (.int .i64 (id:Nat))/\(w11.drewN n).cell? ⟨gp,1,none⟩=some (.bool fin)from⟨q0,q1⟩));have g0:=Lib.hid (λn=>(show(w11.drewN n).drew.cell? ⟨gp,0,none⟩=some (.int .i64 (id:Nat))/\(w11.drewN n).drew.cell? ⟨gp,1,none⟩=some (.bool fin)from⟨q0,q1⟩));have g1:=Lib.hid (λn w13 ow' (hf:Fr (w11.drewN n).drew ow12 w13 ow')=>(show w13.cell? ⟨gp,0,none⟩=some (.int .i64 (id:Nat))/\w13.cell? ⟨gp,1,none⟩=some (.bool fin)from
   ⟨(World.cell?_of_block (a:=⟨gp,0,none⟩) (hf.keep gp h6.out.lt h7)).trans q0,(World.cell?_of_block (a:=⟨gp,1,none⟩) (hf.keep gp h6.out.lt h7)).trans q1⟩))
  clear h5 hi hI Hs h7;go_wp2_with fail;go_quiet (fail);go_wp2_with (first
   |(go_at_call 111
     refine Calls.mono (HY.out _) ?_;rintro e w12 ⟨rfl,hw⟩;subst w12)
   |fail)
  go_region_held3 (λW'=>W'.cell? ⟨gp,0,none⟩=some (.int .i64 (id:Nat))/\W'.cell? ⟨gp,1,none⟩=some (.bool fin)) (first|with_reducible exact HZ.out _|with_reducible exact g0.out _|with_reducible exact H5.out) (first
   |(go_at_call 196
     refine(H4.out _).mono ?_;intro e w13 hp;obtain rfl:=hp.ret;have HQ:=Lib.hid hp;have H5:=Lib.hid (show w13.cell? ⟨gp,0,none⟩=some (.int .i64 (id:Nat))/\w13.cell? ⟨gp,1,none⟩=some (.bool fin)from by
      obtain⟨_,ow',_,_,_,hf⟩:=hp.out;exact g1.out _ w13 ow' hf)
     clear hp)
   |fail)
 all_goals
  go_wp2;go_end0;exact HQ.out.trans ((H3.out.trans (Fr.drewN _ ow12 _)).drew)
end Go.Proofs.YtkpppjhbmnfmkaaGreatDoor
