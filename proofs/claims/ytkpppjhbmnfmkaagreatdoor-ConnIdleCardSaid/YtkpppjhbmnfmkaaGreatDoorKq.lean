import Derived.Test.YtkpppjhbmnfmkaaGreatDoorKr0
set_option linter.unusedSimpArgs false
set_option linter.unusedVariables false
set_option maxHeartbeats 8000000
set_option maxRecDepth 100000
namespace Go.Proofs.YtkpppjhbmnfmkaaGreatDoor
open Go.RowKit Go.Own Go.Own.Im Go.Own.Cx Go.Own.Fr
attribute [local go_sem] Oper.semAt_some
theorem piece_good (w:World) (ow:Nat->Tg) (b:Nat) (M:Cv) (S:Cv->Prop) (L:Lay) (id:Nat) (fin:Bool) (l0 l1:List UInt8) (i:Inf) (sv:Value) (A:Option Addr) (n c:Nat) (hs:List Hd.HdrV) (t':Hk.TM) (h:CN w ow b M L) (hE:EnvD w ow) (Hh:M.hp.dgone=false) (hL:M.list=some (id,fin,l0)) (he:i.endHeads=true) (hr:Rd w w.heap.size A n l1) (hc:n<=c) (hn:l0.length+n<=16384)
 (hA:Hk.decP M.hp.dt (l0++l1)=some (hs,t')) (h8:M.side=2) (hk:knownB M id=false) (hC:strAt M (id:Int)=none) (hid:id<=2147483647)
 (Hi:∀W ow' L' A c,CN W ow' b {M with list:=none,hp:=M.hp.turned t'} L'->Go.Own.Cx.Fr w ow W ow'->hs.length<=c->hszs hs<=16384->Cm.RS hdrC 3 W W.heap.size A hs.length hs->(0<hs.length->∀ad,A=some ad->ow' ad.block= .evd)->Calls Tryz.prog 196 #[.pointer (some ⟨b,0,none⟩),.int .i64 (id:Nat),.slice A hs.length c,.bool fin] W (CPostS W ow' b S (.tuple #[]))):
 Calls Tryz.prog 150 #[.pointer (some ⟨b,0,none⟩),.agg (infC i sv (.slice A n c))] w (CPostS w ow b S (.tuple #[])):=by
 have HX:=Lib.hid (Blk.new w 91 (infC i sv (.slice A n c)));have hS:=Lib.hid ((Below.refl w.heap.size w).alloc (Nat.le_refl _) (.cells (infC i sv (.slice A n c)) 91));have HC:=Lib.hid h;have HR:=Lib.hid hr;have Hy:=Lib.hid Hi;have HH:=Lib.hid (show _/\_/\_/\_/\_ from⟨hA,h8,hk,hC,hid⟩);have Hj:=Lib.hid hL;have HE:=Lib.hid he;have HB:=Lib.hid Hh;have HD:=Lib.hid hE;clear Hh h hr Hi hA h8 hk hC hid hE hL he;go_enter Tryz.func150,Tryz.ntmps150;go_upto_region 1 with fail;generalize w.alloc (.cells (infC i sv (.slice A n c)) 91)=W0 at*
 have ht:=Lib.hid (HC.out.below hS.out);have hD:=ht.out.p.lst;rw[Hj.out]at hD;obtain⟨gp,bv,hT,Hl,hU,hV⟩:=hD;obtain⟨A0,c0,rfl,_,_⟩:=hV.form;have c16:W0.cell? ⟨b,16,none⟩=some L.list:=ht.out.blk.cell 16;rw[hT]at c16;have p2:W0.cell? ⟨gp,2,none⟩=some (.slice A0 l0.length c0):=hU.cell 2;have x17:W0.cell? ⟨w.heap.size,17,none⟩=some (.slice A n c):=HX.out.cell 17;have x4:W0.cell? ⟨w.heap.size,4,none⟩=some (.bool i.endHeads):=HX.out.cell 4;rw[HE.out]at x4;have HF:=Lib.hid (show Oz W0.drew (λg=>ow g= .blk) (.slice A0 l0.length c0) l0 from hV.drew);have HG:=Lib.hid (show Rd W0.drew w.heap.size A n l1 from(HR.out.below hS.out).drew);have Hm:=Lib.hid Hl;have Hn:=Lib.hid (show Blk W0.drew gp 195 #[.int .i64 (id:Nat),.bool fin,.slice A0 l0.length c0]from hU);have hN:=Lib.hid hT;have HI:=Lib.hid (show l0.length+n<=140737488355328 by omega);have HK:=Lib.hid (show Blk W0.drew w.heap.size 91 (infC i sv (.slice A n c))from HX.out);have HN:=Lib.hid (show Blk W0.drew b 80 (cnC M L)from ht.out.blk);have HO:=Lib.hid ht.out.tb;clear hV Hl hU hT;go_region_law
  ((refine step_app_z byteP _ (by rfl) (.tmp 18) (.tmp 20) (by rfl) (λg=>ow g= .blk) (.slice A0 l0.length c0) l0 (by rfl) HF.out w.heap.size A n c l1 (by rfl) HG.out HI.out ?_
    intro A8 c8 w8 row8 Ho hO hP;have HS:=Lib.hid Ho;have HT:=Lib.hid hO;have HU:=Lib.hid hP;have hW:=Hn.out.grown hO (λe=>by have h1:=(hP gp e.symm).1;rw[Hm.out]at h1;cases h1);have HV:w8.frozen? ⟨gp,2,none⟩=false:=hW.frozen 2;have HW:w8.cell? ⟨gp,2,none⟩=some (.slice A0 l0.length c0):=hW.cell 2;have Hp:=HN.out.grown hO (λe=>by have h1:=(hP b e.symm).1;rw[HO.out]at h1;cases h1);have H3:w8.cell? ⟨b,16,none⟩=some (.pointer (some ⟨gp,0,none⟩)):=by have h:=Hp.cell 16;rw[<-hN.out];exact h
    clear hW Hp Ho hO hP))
 all_goals
  obtain⟨ow1,hQ,hX,hF,hY⟩:=(show CN W0.drew ow b M L from ht.out.drew).blocks Hj.out hN.out Hm.out Hn.out HS.out HT.out HU.out;have hR:=Lib.hid hQ;have HY:=Lib.hid (show Fr w ow _ ow1 from((Fr.below hS.out ow).trans (Fr.drewN _ ow 1)).trans hX);have hZ:=Lib.hid hF;have Hq:=Lib.hid hY;have y16:(w8.setCell ⟨gp,2,none⟩ (.slice A8 (l0.length+n) c8)).cell? ⟨b,16,none⟩=some (.pointer (some ⟨gp,0,none⟩)):=by have h:=hQ.blk.cell 16;rw[<-hN.out];exact h
  have y2:(w8.setCell ⟨gp,2,none⟩ (.slice A8 (l0.length+n) c8)).cell? ⟨gp,2,none⟩=some (.slice A8 (l0.length+n) c8):=hY.cell 2;have yf:=hQ.blk.frozen 16;have yx:(w8.setCell ⟨gp,2,none⟩ (.slice A8 (l0.length+n) c8)).cell? ⟨w.heap.size,4,none⟩=some (.bool true):=by
   have H0:ow w.heap.size= .no:=HC.out.new _ (Nat.le_refl _);have h1:=((hX.blk HK.out H0)).cell 4;rw[<-HE.out];exact h1
  clear hQ hX hF hY HV HW H3;generalize w8.setCell ⟨gp,2,none⟩ (.slice A8 (l0.length+n) c8)=W9 at*
  go_wp2_with fail;have hu:=hR.out.unlists;have hj:=Lib.hid (HY.out.trans hu.2);obtain⟨g',bv',e1,_,b1,z1⟩:=hR.out.p.lst;obtain rfl:gp=g':=by
   have h1:=hN.out.symm.trans e1;injection h1 with h1;injection h1 with h1;injection h1
  obtain rfl:Value.slice A8 (l0.length+n) c8=bv':=by
   have h1:=(Hq.out.cell 2).symm.trans (b1.cell 2)
   simpa using h1
  have H1:l0.length+n<=c8:=by
   obtain⟨_,_,e3,h3,_⟩:=z1.form;injection e3 with _ e4 e5
   omega
  have Hs:=(z1.grown (grown_setCell (World.grownBy.refl W9 (some b)) 16 (.pointer none)) (λg e ho=>by injection e with e;rw[<-e,hR.out.tb]at ho;cases ho)).rd;have HZ:=Lib.hid (decode_cn (w:=(W9.setCell ⟨b,16,none⟩ (.pointer none)).drew) hu.1.drew (HD.out.fr hj.out.drew) HB.out A8 (l0.length+n) c8 _ (l0++l1) Hs.drew (Nat.le_refl _) H1 (by omega) (oz_far z1 H1));have H4:=Lib.hid hu.1;have H2:=Lib.hid (Hq.out.far (p:=⟨b,16,none⟩) (λe=>by have h1:=hZ.out;simp only at e;rw[e,hR.out.tb]at h1;cases h1) (.pointer none));have Ht:=Lib.hid (show(W9.setCell ⟨b,16,none⟩ (.pointer none)).cell? ⟨b,22,none⟩=some (.pointer (some ⟨L.dec,0,none⟩))/\(W9.setCell ⟨b,16,none⟩ (.pointer none)).cell? ⟨gp,2,none⟩=some (.slice A8 (l0.length+n) c8)from⟨hu.1.blk.cell 22,H2.out.cell 2⟩);have H5:=Lib.hid (show(W9.setCell ⟨b,16,none⟩ (.pointer none)).drew.cell? ⟨b,22,none⟩=some (.pointer (some ⟨L.dec,0,none⟩))/\(W9.setCell ⟨b,16,none⟩ (.pointer none)).drew.cell? ⟨gp,2,none⟩=some (.slice A8 (l0.length+n) c8)from Ht.out);clear hu b1 z1 H1 Hs e1 y16 y2 yf yx;generalize W9.setCell ⟨b,16,none⟩ (.pointer none)=W10 at*
  go_region_held3 (λW'=>W'.cell? ⟨b,22,none⟩=some (.pointer (some ⟨L.dec,0,none⟩))/\W'.cell? ⟨gp,2,none⟩=some (.slice A8 (l0.length+n) c8)) (first|with_reducible exact Ht.out|with_reducible exact H5.out|with_reducible exact Hu.out|with_reducible exact H7.out) (first
   |(go_at_call 194
     with_reducible refine Calls.mono HZ.out ?_
     rintro e w11 hp;rcases hp with⟨g0,t'',A11,c11,hd,rfl,hG,h9,hb,hH,hh,hi,hq⟩|⟨H0,_⟩
     case inr=>exact absurd (HH.out.1.symm.trans H0) (by simp)
     obtain⟨rfl,rfl⟩:hs=g0/\t'=t'':=by
      have h1:=HH.out.1.symm.trans hd;injection h1 with h1
      injection h1 with h1 h2
      exact⟨h1,h2⟩
     have h6:=Lib.hid (show Go.Own.Cx.Fr W10 (offT ow1) w11 (offT ow1)from(Fr.drewN W10 (offT ow1) 1).trans hi);have H8:=Lib.hid hG;have hI:=Lib.hid h9;have H9:=Lib.hid (show 0<hs.length->∀ad,A11=some ad->W10.heap.size<=ad.block from hb);have Ha:=Lib.hid hH;have hl:=Lib.hid (show CN w11 (offT ow1) b {M with list:=none,hp:=M.hp.turned t'} {L with list:=.pointer none}from hh);have h5:=Lib.hid (h6.out.blk H2.out (if_pos (.inl hZ.out)));have Hu:=Lib.hid (show w11.cell? ⟨b,22,none⟩=some (.pointer (some ⟨L.dec,0,none⟩))/\w11.cell? ⟨gp,2,none⟩=some (.slice A8 (l0.length+n) c8)from⟨hl.out.blk.cell 22,h5.out.cell 2⟩);have H7:=Lib.hid (show w11.drew.cell? ⟨b,22,none⟩=some (.pointer (some ⟨L.dec,0,none⟩))/\w11.drew.cell? ⟨gp,2,none⟩=some (.slice A8 (l0.length+n) c8)from Hu.out);clear hd hG h9 hb hH hh hi hq)
   |fail)
 all_goals
  have Hb:∃ow12,CN w11 ow12 b {M with list:=none,hp:=M.hp.turned t'} {L with list:=.pointer none}/\Go.Own.Cx.Fr w ow w11 ow12/\(0<hs.length->∀ad,A11=some ad->ow12 ad.block= .evd)/\ow12 gp= .no:=by
   have hJ:offT ow1 gp= .no:=if_pos (.inl hZ.out);rcases Nat.eq_zero_or_pos hs.length with h0|h0
   · exact⟨offT ow1,hl.out,hj.out.trans h6.out,λh=>absurd h (by omega),hJ⟩
   · obtain⟨ad,ha,g1,_⟩:=hI.out.2 0 _ (List.getElem?_eq_getElem h0)
     have Hv:W10.heap.size<=ad.block:=H9.out h0 ad ha;exact⟨_,hl.out.tag (H4.out.new _ Hv) g1 .evd,hj.out.trans (Fr.tagNew h6.out Hv .evd),λ_ ad2 h2=>by rw[ha]at h2;injection h2 with h2;subst h2;exact upd_same _ _ _,by rw[upd_other _ _ (by have:=H2.out.lt;omega)];exact hJ⟩
  obtain⟨ow12,h4,hm,hK,h7⟩:=Hb;have Hc:=Lib.hid hm;have Hx:(Lit.int .i64 (id:Int)).wf=true:=by have:=HH.out.2.2.2.2;simp[Lit.wf,IntKind.min,IntKind.max,IntKind.bits,IntKind.signed];omega
  have g2:=λn=>look_str (h4.drewN n) (id:Int) Hx;rw[at_none (show strAt {M with list:=none,hp:=M.hp.turned t'} (id:Int)=none from HH.out.2.2.2.1)]at g2;have c15:w11.cell? ⟨b,15,none⟩=some (.map (some L.mb)):=h4.blk.cell 15;have c0':w11.cell? ⟨b,0,none⟩=some (.int .i64 (M.side:Nat)):=h4.blk.cell 0;rw[HH.out.2.1]at c0';have q0:w11.cell? ⟨gp,0,none⟩=some (.int .i64 (id:Nat)):=h5.out.cell 0;have q1:w11.cell? ⟨gp,1,none⟩=some (.bool fin):=h5.out.cell 1;have g3:=Lib.hid (λn=>(show Calls Tryz.prog 111 #[.pointer (some ⟨b,0,none⟩),.int .i64 (id:Nat)] (w11.drewN n) λe w'=>e= .returned (.bool false)/\w'=w11.drewN n from by
   have h1:=known_any (w11.drewN n) ow12 b _ _ id (h4.drewN n);rw[show decide (id % 2=1/\id<=({M with list:=none,hp:=M.hp.turned t'}:Cv).last)=false from HH.out.2.2.1]at h1;exact h1))
  have He:=Lib.hid (λn=>Hy.out (w11.drewN n).drew ow12 _ A11 c11 (h4.drewN n).drew (hm.trans (Fr.drewN _ _ n)).drew H8.out Ha.out (hI.out.keep (Nat.le_refl _) λ_ _ _ _=>rfl) hK);have g4:=Lib.hid (λn=>(show(w11.drewN n).cell? ⟨gp,0,none⟩=some (.int .i64 (id:Nat))/\(w11.drewN n).cell? ⟨gp,1,none⟩=some (.bool fin)from⟨q0,q1⟩));have g5:=Lib.hid (λn=>(show(w11.drewN n).drew.cell? ⟨gp,0,none⟩=some (.int .i64 (id:Nat))/\(w11.drewN n).drew.cell? ⟨gp,1,none⟩=some (.bool fin)from⟨q0,q1⟩));have g6:=Lib.hid (λn w13 ow' (hf:Fr (w11.drewN n).drew ow12 w13 ow')=>(show w13.cell? ⟨gp,0,none⟩=some (.int .i64 (id:Nat))/\w13.cell? ⟨gp,1,none⟩=some (.bool fin)from
   ⟨(World.cell?_of_block (a:=⟨gp,0,none⟩) (hf.keep gp h5.out.lt h7)).trans q0,(World.cell?_of_block (a:=⟨gp,1,none⟩) (hf.keep gp h5.out.lt h7)).trans q1⟩))
  clear h4 hm hK Hx h7;go_wp2_with fail;go_quiet (fail);go_wp2_with (first
   |(go_at_call 111
     refine Calls.mono (g3.out _) ?_;rintro e w12 ⟨rfl,hw⟩;subst w12)
   |fail)
  go_region_held3 (λW'=>W'.cell? ⟨gp,0,none⟩=some (.int .i64 (id:Nat))/\W'.cell? ⟨gp,1,none⟩=some (.bool fin)) (first|with_reducible exact g4.out _|with_reducible exact g5.out _|with_reducible exact Hg.out) (first
   |(go_at_call 196
     refine(He.out _).mono ?_;intro e w13 hp;obtain rfl:=hp.ret;have HQ:=Lib.hid hp;have Hg:=Lib.hid (show w13.cell? ⟨gp,0,none⟩=some (.int .i64 (id:Nat))/\w13.cell? ⟨gp,1,none⟩=some (.bool fin)from by
      obtain⟨_,ow',_,_,_,hf⟩:=hp.out;exact g6.out _ w13 ow' hf)
     clear hp)
   |fail)
 all_goals
  go_wp2;go_end0;exact HQ.out.trans ((Hc.out.trans (Fr.drewN _ ow12 _)).drew)
end Go.Proofs.YtkpppjhbmnfmkaaGreatDoor
