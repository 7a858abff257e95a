import Derived.Test.YtkpppjhbmnfmkaaGreatDoorJat
set_option linter.unusedSimpArgs false
set_option linter.unusedVariables false
set_option maxHeartbeats 8000000
set_option maxRecDepth 100000
namespace Go.Proofs.YtkpppjhbmnfmkaaGreatDoor
open Go.RowKit Go.Own Go.Own.Im Go.Own.Cx Go.Own.Fr
attribute [local go_sem] Oper.semAt_some
theorem piece_good (w:World) (ow:Nat->Tg) (b:Nat) (M:Cv) (S:Cv->Prop) (L:Lay) (id:Nat) (fin:Bool) (l0 l1:List UInt8) (i:Inf) (sv:Value) (A:Option Addr) (n c:Nat) (hs:List Hd.HdrV) (t':Hk.TM) (h:CN w ow b M L) (hE:EnvD w ow) (Hg:M.hp.dgone=false) (hL:M.list=some (id,fin,l0)) (he:i.endHeads=true) (hr:Rd w w.heap.size A n l1) (hc:n<=c) (hn:l0.length+n<=16384)
 (hA:Hk.decP M.hp.dt (l0++l1)=some (hs,t')) (h8:M.side=2) (hk:knownB M id=false) (hC:strAt M (id:Int)=none) (hid:id<=2147483647)
 (Hh:∀W ow' L' A c,CN W ow' b {M with list:=none,hp:=M.hp.turned t'} L'->Go.Own.Cx.Fr w ow W ow'->hs.length<=c->hszs hs<=16384->Cm.RS hdrC 3 W W.heap.size A hs.length hs->(0<hs.length->∀ad,A=some ad->ow' ad.block= .evd)->Calls Tryz.prog 196 #[.pointer (some ⟨b,0,none⟩),.int .i64 (id:Nat),.slice A hs.length c,.bool fin] W (CPostS W ow' b S (.tuple #[]))):
 Calls Tryz.prog 150 #[.pointer (some ⟨b,0,none⟩),.agg (infC i sv (.slice A n c))] w (CPostS w ow b S (.tuple #[])):=by
 have HX:=Lib.hid (Blk.new w 91 (infC i sv (.slice A n c)));have hR:=Lib.hid ((Below.refl w.heap.size w).alloc (Nat.le_refl _) (.cells (infC i sv (.slice A n c)) 91));have HC:=Lib.hid h;have HR:=Lib.hid hr;have Hx:=Lib.hid Hh;have HH:=Lib.hid (show _/\_/\_/\_/\_ from⟨hA,h8,hk,hC,hid⟩);have Hi:=Lib.hid hL;have HE:=Lib.hid he;have Hy:=Lib.hid Hg;have HB:=Lib.hid hE;clear Hg h hr Hh hA h8 hk hC hid hE hL he;go_enter Tryz.func150,Tryz.ntmps150;go_upto_region 1 with fail;generalize w.alloc (.cells (infC i sv (.slice A n c)) 91)=W0 at*
 have ht:=Lib.hid (HC.out.below hR.out);have hD:=ht.out.p.lst;rw[Hi.out]at hD;obtain⟨gp,bv,hS,Hj,hT,hU⟩:=hD;obtain⟨A0,c0,rfl,_,_⟩:=hU.form;have c16:W0.cell? ⟨b,16,none⟩=some L.list:=ht.out.blk.cell 16;rw[hS]at c16;have p2:W0.cell? ⟨gp,2,none⟩=some (.slice A0 l0.length c0):=hT.cell 2;have x17:W0.cell? ⟨w.heap.size,17,none⟩=some (.slice A n c):=HX.out.cell 17;have x4:W0.cell? ⟨w.heap.size,4,none⟩=some (.bool i.endHeads):=HX.out.cell 4;rw[HE.out]at x4;have HD:=Lib.hid (show Oz W0.drew (λg=>ow g= .blk) (.slice A0 l0.length c0) l0 from hU.drew);have HF:=Lib.hid (show Rd W0.drew w.heap.size A n l1 from(HR.out.below hR.out).drew);have Hl:=Lib.hid Hj;have Hm:=Lib.hid (show Blk W0.drew gp 195 #[.int .i64 (id:Nat),.bool fin,.slice A0 l0.length c0]from hT);have hM:=Lib.hid hS;have HG:=Lib.hid (show l0.length+n<=140737488355328 by omega);have HI:=Lib.hid (show Blk W0.drew w.heap.size 91 (infC i sv (.slice A n c))from HX.out);have HK:=Lib.hid (show Blk W0.drew b 80 (cnC M L)from ht.out.blk);have HN:=Lib.hid ht.out.tb;clear hU Hj hT hS;go_region_law
  ((refine step_app_z byteP _ (by rfl) (.tmp 18) (.tmp 20) (by rfl) (λg=>ow g= .blk) (.slice A0 l0.length c0) l0 (by rfl) HD.out w.heap.size A n c l1 (by rfl) HF.out HG.out ?_
    intro A8 c8 w8 row8 Hn hN hO;have HO:=Lib.hid Hn;have HS:=Lib.hid hN;have HT:=Lib.hid hO;have hV:=Hm.out.grown hN (λe=>by have h1:=(hO gp e.symm).1;rw[Hl.out]at h1;cases h1);have HU:w8.frozen? ⟨gp,2,none⟩=false:=hV.frozen 2;have HV:w8.cell? ⟨gp,2,none⟩=some (.slice A0 l0.length c0):=hV.cell 2;have Ho:=HK.out.grown hN (λe=>by have h1:=(hO b e.symm).1;rw[HN.out]at h1;cases h1);have H2:w8.cell? ⟨b,16,none⟩=some (.pointer (some ⟨gp,0,none⟩)):=by have h:=Ho.cell 16;rw[<-hM.out];exact h
    clear hV Ho Hn hN hO))
 all_goals
  obtain⟨ow1,hP,hW,hF,hX⟩:=(show CN W0.drew ow b M L from ht.out.drew).blocks Hi.out hM.out Hl.out Hm.out HO.out HS.out HT.out;have hQ:=Lib.hid hP;have HW:=Lib.hid (show Fr w ow _ ow1 from((Fr.below hR.out ow).trans (Fr.drewN _ ow 1)).trans hW);have hY:=Lib.hid hF;have Hp:=Lib.hid hX;have y16:(w8.setCell ⟨gp,2,none⟩ (.slice A8 (l0.length+n) c8)).cell? ⟨b,16,none⟩=some (.pointer (some ⟨gp,0,none⟩)):=by have h:=hP.blk.cell 16;rw[<-hM.out];exact h
  have y2:(w8.setCell ⟨gp,2,none⟩ (.slice A8 (l0.length+n) c8)).cell? ⟨gp,2,none⟩=some (.slice A8 (l0.length+n) c8):=hX.cell 2;have yf:=hP.blk.frozen 16;have yx:(w8.setCell ⟨gp,2,none⟩ (.slice A8 (l0.length+n) c8)).cell? ⟨w.heap.size,4,none⟩=some (.bool true):=by
   have hZ:ow w.heap.size= .no:=HC.out.new _ (Nat.le_refl _);have h1:=((hW.blk HI.out hZ)).cell 4;rw[<-HE.out];exact h1
  clear hP hW hF hX HU HV H2;generalize w8.setCell ⟨gp,2,none⟩ (.slice A8 (l0.length+n) c8)=W9 at*
  go_wp2_with fail;have hu:=hQ.out.unlists;have hj:=Lib.hid (HW.out.trans hu.2);obtain⟨g',bv',e1,_,b1,z1⟩:=hQ.out.p.lst;obtain rfl:gp=g':=by
   have h1:=hM.out.symm.trans e1;injection h1 with h1;injection h1 with h1;injection h1
  obtain rfl:Value.slice A8 (l0.length+n) c8=bv':=by
   have h1:=(Hp.out.cell 2).symm.trans (b1.cell 2)
   simpa using h1
  have H0:l0.length+n<=c8:=by
   obtain⟨_,_,e3,h3,_⟩:=z1.form;injection e3 with _ e4 e5
   omega
  have Hq:=(z1.grown (grown_setCell (World.grownBy.refl W9 (some b)) 16 (.pointer none)) (λg e ho=>by injection e with e;rw[<-e,hQ.out.tb]at ho;cases ho)).rd;have HY:=Lib.hid (decode_cn (w:=(W9.setCell ⟨b,16,none⟩ (.pointer none)).drew) hu.1.drew (HB.out.fr hj.out.drew) Hy.out A8 (l0.length+n) c8 _ (l0++l1) Hq.drew (Nat.le_refl _) H0 (by omega) (oz_far z1 H0));have H3:=Lib.hid hu.1;have H1:=Lib.hid (Hp.out.far (p:=⟨b,16,none⟩) (λe=>by have h1:=hY.out;simp only at e;rw[e,hQ.out.tb]at h1;cases h1) (.pointer none));have Hs:=Lib.hid (show(W9.setCell ⟨b,16,none⟩ (.pointer none)).cell? ⟨b,22,none⟩=some (.pointer (some ⟨L.dec,0,none⟩))/\(W9.setCell ⟨b,16,none⟩ (.pointer none)).cell? ⟨gp,2,none⟩=some (.slice A8 (l0.length+n) c8)from⟨hu.1.blk.cell 22,H1.out.cell 2⟩);have H4:=Lib.hid (show(W9.setCell ⟨b,16,none⟩ (.pointer none)).drew.cell? ⟨b,22,none⟩=some (.pointer (some ⟨L.dec,0,none⟩))/\(W9.setCell ⟨b,16,none⟩ (.pointer none)).drew.cell? ⟨gp,2,none⟩=some (.slice A8 (l0.length+n) c8)from Hs.out);clear hu b1 z1 H0 Hq e1 y16 y2 yf yx;generalize W9.setCell ⟨b,16,none⟩ (.pointer none)=W10 at*
  go_region_held3 (λW'=>W'.cell? ⟨b,22,none⟩=some (.pointer (some ⟨L.dec,0,none⟩))/\W'.cell? ⟨gp,2,none⟩=some (.slice A8 (l0.length+n) c8)) (first|with_reducible exact Hs.out|with_reducible exact H4.out|with_reducible exact Ht.out|with_reducible exact H5.out) (first
   |(go_at_call 194
     with_reducible refine Calls.mono HY.out ?_
     rintro e w11 hp;rcases hp with⟨HZ,t'',A11,c11,hd,rfl,hG,h9,hb,hH,hh,hi,hq⟩|⟨hZ,_⟩
     case inr=>exact absurd (HH.out.1.symm.trans hZ) (by simp)
     obtain⟨rfl,rfl⟩:hs=HZ/\t'=t'':=by
      have h1:=HH.out.1.symm.trans hd;injection h1 with h1
      injection h1 with h1 h2
      exact⟨h1,h2⟩
     have h6:=Lib.hid (show Go.Own.Cx.Fr W10 (offT ow1) w11 (offT ow1)from(Fr.drewN W10 (offT ow1) 1).trans hi);have H7:=Lib.hid hG;have hI:=Lib.hid h9;have H8:=Lib.hid (show 0<hs.length->∀ad,A11=some ad->W10.heap.size<=ad.block from hb);have H9:=Lib.hid hH;have hl:=Lib.hid (show CN w11 (offT ow1) b {M with list:=none,hp:=M.hp.turned t'} {L with list:=.pointer none}from hh);have h5:=Lib.hid (h6.out.blk H1.out (if_pos (.inl hY.out)));have Ht:=Lib.hid (show w11.cell? ⟨b,22,none⟩=some (.pointer (some ⟨L.dec,0,none⟩))/\w11.cell? ⟨gp,2,none⟩=some (.slice A8 (l0.length+n) c8)from⟨hl.out.blk.cell 22,h5.out.cell 2⟩);have H5:=Lib.hid (show w11.drew.cell? ⟨b,22,none⟩=some (.pointer (some ⟨L.dec,0,none⟩))/\w11.drew.cell? ⟨gp,2,none⟩=some (.slice A8 (l0.length+n) c8)from Ht.out);clear hd hG h9 hb hH hh hi hq)
   |fail)
 all_goals
  have Ha:∃ow12,CN w11 ow12 b {M with list:=none,hp:=M.hp.turned t'} {L with list:=.pointer none}/\Go.Own.Cx.Fr w ow w11 ow12/\(0<hs.length->∀ad,A11=some ad->ow12 ad.block= .evd)/\ow12 gp= .no:=by
   have hJ:offT ow1 gp= .no:=if_pos (.inl hY.out);rcases Nat.eq_zero_or_pos hs.length with h0|h0
   · exact⟨offT ow1,hl.out,hj.out.trans h6.out,λh=>absurd h (by omega),hJ⟩
   · obtain⟨ad,ha,g0,_⟩:=hI.out.2 0 _ (List.getElem?_eq_getElem h0)
     have Hu:W10.heap.size<=ad.block:=H8.out h0 ad ha;exact⟨_,hl.out.tag (H3.out.new _ Hu) g0 .evd,hj.out.trans (Fr.tagNew h6.out Hu .evd),λ_ ad2 h2=>by rw[ha]at h2;injection h2 with h2;subst h2;exact upd_same _ _ _,by rw[upd_other _ _ (by have:=H1.out.lt;omega)];exact hJ⟩
  obtain⟨ow12,h4,hm,hK,h7⟩:=Ha;have Hb:=Lib.hid hm;have Hv:(Lit.int .i64 (id:Int)).wf=true:=by have:=HH.out.2.2.2.2;simp[Lit.wf,IntKind.min,IntKind.max,IntKind.bits,IntKind.signed];omega
  have g1:=λn=>look_str (h4.drewN n) (id:Int) Hv;rw[at_none (show strAt {M with list:=none,hp:=M.hp.turned t'} (id:Int)=none from HH.out.2.2.2.1)]at g1;have c15:w11.cell? ⟨b,15,none⟩=some (.map (some L.mb)):=h4.blk.cell 15;have c0':w11.cell? ⟨b,0,none⟩=some (.int .i64 (M.side:Nat)):=h4.blk.cell 0;rw[HH.out.2.1]at c0';have q0:w11.cell? ⟨gp,0,none⟩=some (.int .i64 (id:Nat)):=h5.out.cell 0;have q1:w11.cell? ⟨gp,1,none⟩=some (.bool fin):=h5.out.cell 1;have g2:=Lib.hid (λn=>(show Calls Tryz.prog 111 #[.pointer (some ⟨b,0,none⟩),.int .i64 (id:Nat)] (w11.drewN n) λe w'=>e= .returned (.bool false)/\w'=w11.drewN n from by
   have h1:=known_any (w11.drewN n) ow12 b _ _ id (h4.drewN n);rw[show decide (id % 2=1/\id<=({M with list:=none,hp:=M.hp.turned t'}:Cv).last)=false from HH.out.2.2.1]at h1;exact h1))
  have Hc:=Lib.hid (λn=>Hx.out (w11.drewN n).drew ow12 _ A11 c11 (h4.drewN n).drew (hm.trans (Fr.drewN _ _ n)).drew H7.out H9.out (hI.out.keep (Nat.le_refl _) λ_ _ _ _=>rfl) hK);have g3:=Lib.hid (λn=>(show(w11.drewN n).cell? ⟨gp,0,none⟩=some (.int .i64 (id:Nat))/\(w11.drewN n).cell? ⟨gp,1,none⟩=some (.bool fin)from⟨q0,q1⟩));have g4:=Lib.hid (λn=>(show(w11.drewN n).drew.cell? ⟨gp,0,none⟩=some (.int .i64 (id:Nat))/\(w11.drewN n).drew.cell? ⟨gp,1,none⟩=some (.bool fin)from⟨q0,q1⟩));have g5:=Lib.hid (λn w13 ow' (hf:Fr (w11.drewN n).drew ow12 w13 ow')=>(show w13.cell? ⟨gp,0,none⟩=some (.int .i64 (id:Nat))/\w13.cell? ⟨gp,1,none⟩=some (.bool fin)from
   ⟨(World.cell?_of_block (a:=⟨gp,0,none⟩) (hf.keep gp h5.out.lt h7)).trans q0,(World.cell?_of_block (a:=⟨gp,1,none⟩) (hf.keep gp h5.out.lt h7)).trans q1⟩))
  clear h4 hm hK Hv h7;go_wp2_with fail;go_quiet (fail);go_wp2_with (first
   |(go_at_call 111
     refine Calls.mono (g2.out _) ?_;rintro e w12 ⟨rfl,hw⟩;subst w12)
   |fail)
  go_region_held3 (λW'=>W'.cell? ⟨gp,0,none⟩=some (.int .i64 (id:Nat))/\W'.cell? ⟨gp,1,none⟩=some (.bool fin)) (first|with_reducible exact g3.out _|with_reducible exact g4.out _|with_reducible exact He.out) (first
   |(go_at_call 196
     refine(Hc.out _).mono ?_;intro e w13 hp;obtain rfl:=hp.ret;have HQ:=Lib.hid hp;have He:=Lib.hid (show w13.cell? ⟨gp,0,none⟩=some (.int .i64 (id:Nat))/\w13.cell? ⟨gp,1,none⟩=some (.bool fin)from by
      obtain⟨_,ow',_,_,_,hf⟩:=hp.out;exact g5.out _ w13 ow' hf)
     clear hp)
   |fail)
 all_goals
  go_wp2;go_end0;exact HQ.out.trans ((Hb.out.trans (Fr.drewN _ ow12 _)).drew)
end Go.Proofs.YtkpppjhbmnfmkaaGreatDoor
