import Derived.Test.YtkpppjhbmnfmkaaGreatDoorKr0
set_option linter.unusedSimpArgs false
set_option linter.unusedVariables false
set_option maxHeartbeats 8000000
set_option maxRecDepth 100000
namespace Go.Proofs.YtkpppjhbmnfmkaaGreatDoor
open Lib (hid)
open Go.RowKit Go.Own Go.Own.Im Go.Own.Cx Go.Own.Fr
attribute [local go_sem] Oper.semAt_some
theorem piece_bad (w:World) (ow:Nat->Tg) (b:Nat) (M:Cv) (S:Cv->Prop) (L:Lay) (id:Nat) (fin:Bool) (l0 l1:List UInt8) (i:Inf) (sv:Value) (A:Option Addr) (n c:Nat) (h:CN w ow b M L) (hE:EnvD w ow) (hP:M.hp.dgone=false) (hL:M.list=some (id,fin,l0)) (he:i.endHeads=true) (hr:Rd w w.heap.size A n l1) (hc:n<=c) (hn:l0.length+n<=16384)
 (h9:Hk.decP M.hp.dt (l0++l1)=none) (hS:∀t9,S {M with list:=none,hp:=M.hp.lost t9}):
 Calls Tryz.prog 150 #[.pointer (some ⟨b,0,none⟩),.agg (infC i sv (.slice A n c))] w (PPostS w ow b S 9 0):=by
 have HX:=hid (Blk.new w 91 (infC i sv (.slice A n c)));have hm:=hid ((Below.refl w.heap.size w).alloc (Nat.le_refl _) (.cells (infC i sv (.slice A n c)) 91));have HC:=hid h;have HR:=hid hr;have hq:=hid hS;have HH:=hid (show _/\True from⟨h9,trivial⟩);have hQ:=hid hL;have HE:=hid he;have H3:=hid hP;have H4:=hid hE;clear hP h hr hS h9 hE hL he;go_enter Tryz.func150,Tryz.ntmps150;go_upto_region 1 with fail;generalize w.alloc (.cells (infC i sv (.slice A n c)) 91)=W0 at*
 have h8:=hid (HC.out.below hm.out);have hb:=h8.out.p.lst;rw[hQ.out]at hb;obtain⟨gp,bv,ht,hR,hA,hC⟩:=hb;obtain⟨A0,c0,rfl,_,_⟩:=hC.form;have c16:W0.cell? ⟨b,16,none⟩=some L.list:=h8.out.blk.cell 16;rw[ht]at c16;have p2:W0.cell? ⟨gp,2,none⟩=some (.slice A0 l0.length c0):=hA.cell 2;have x17:W0.cell? ⟨w.heap.size,17,none⟩=some (.slice A n c):=HX.out.cell 17;have x4:W0.cell? ⟨w.heap.size,4,none⟩=some (.bool i.endHeads):=HX.out.cell 4;rw[HE.out]at x4;have H5:=hid (show Oz W0.drew (λg=>ow g= .blk) (.slice A0 l0.length c0) l0 from hC.drew);have H7:=hid (show Rd W0.drew w.heap.size A n l1 from(HR.out.below hm.out).drew);have hT:=hid hR;have hU:=hid (show Blk W0.drew gp 195 #[.int .i64 (id:Nat),.bool fin,.slice A0 l0.length c0]from hA);have hh:=hid ht;have H8:=hid (show l0.length+n<=140737488355328 by omega);have H9:=hid (show Blk W0.drew w.heap.size 91 (infC i sv (.slice A n c))from HX.out);have Ha:=hid (show Blk W0.drew b 80 (cnC M L)from h8.out.blk);have Hb:=hid h8.out.tb;clear hC hR hA ht;go_region_law
  ((refine step_app_z byteP _ (by rfl) (.tmp 18) (.tmp 20) (by rfl) (λg=>ow g= .blk) (.slice A0 l0.length c0) l0 (by rfl) H5.out w.heap.size A n c l1 (by rfl) H7.out H8.out ?_
    intro A8 c8 w8 row8 hV hi hj;have Hc:=hid hV;have He:=hid hi;have Hg:=hid hj;have hD:=hU.out.grown hi (λe=>by have h1:=(hj gp e.symm).1;rw[hT.out]at h1;cases h1);have Hh:w8.frozen? ⟨gp,2,none⟩=false:=hD.frozen 2;have Hi:w8.cell? ⟨gp,2,none⟩=some (.slice A0 l0.length c0):=hD.cell 2;have hW:=Ha.out.grown hi (λe=>by have h1:=(hj b e.symm).1;rw[Hb.out]at h1;cases h1);have hJ:w8.cell? ⟨b,16,none⟩=some (.pointer (some ⟨gp,0,none⟩)):=by have h:=hW.cell 16;rw[<-hh.out];exact h
    clear hD hW hV hi hj))
 all_goals
  obtain⟨ow1,hk,hF,hf,hG⟩:=(show CN W0.drew ow b M L from h8.out.drew).blocks hQ.out hh.out hT.out hU.out Hc.out He.out Hg.out;have hl:=hid hk;have Hj:=hid (show Fr w ow _ ow1 from((Fr.below hm.out ow).trans (Fr.drewN _ ow 1)).trans hF);have hX:=hid hf;have hY:=hid hG;have y16:(w8.setCell ⟨gp,2,none⟩ (.slice A8 (l0.length+n) c8)).cell? ⟨b,16,none⟩=some (.pointer (some ⟨gp,0,none⟩)):=by have h:=hk.blk.cell 16;rw[<-hh.out];exact h
  have y2:(w8.setCell ⟨gp,2,none⟩ (.slice A8 (l0.length+n) c8)).cell? ⟨gp,2,none⟩=some (.slice A8 (l0.length+n) c8):=hG.cell 2;have yf:=hk.blk.frozen 16;have yx:(w8.setCell ⟨gp,2,none⟩ (.slice A8 (l0.length+n) c8)).cell? ⟨w.heap.size,4,none⟩=some (.bool true):=by
   have hH:ow w.heap.size= .no:=HC.out.new _ (Nat.le_refl _);have h1:=((hF.blk H9.out hH)).cell 4;rw[<-HE.out];exact h1
  clear hk hF hf hG Hh Hi hJ;generalize w8.setCell ⟨gp,2,none⟩ (.slice A8 (l0.length+n) c8)=W9 at*
  go_wp2_with fail;have hu:=hl.out.unlists;have h2:=hid (Hj.out.trans hu.2);obtain⟨g',bv',e1,_,b1,z1⟩:=hl.out.p.lst;obtain rfl:gp=g':=by
   have h1:=hh.out.symm.trans e1;injection h1 with h1;injection h1 with h1;injection h1
  obtain rfl:Value.slice A8 (l0.length+n) c8=bv':=by
   have h1:=(hY.out.cell 2).symm.trans (b1.cell 2)
   simpa using h1
  have hI:l0.length+n<=c8:=by
   obtain⟨_,_,e3,h3,_⟩:=z1.form;injection e3 with _ e4 e5
   omega
  have hZ:=(z1.grown (grown_setCell (World.grownBy.refl W9 (some b)) 16 (.pointer none)) (λg e ho=>by injection e with e;rw[<-e,hl.out.tb]at ho;cases ho)).rd;have Hl:=hid (decode_cn (w:=(W9.setCell ⟨b,16,none⟩ (.pointer none)).drew) hu.1.drew (H4.out.fr h2.out.drew) H3.out A8 (l0.length+n) c8 _ (l0++l1) hZ.drew (Nat.le_refl _) hI (by omega) (oz_far z1 hI));have H0:=hid (hY.out.far (p:=⟨b,16,none⟩) (λe=>by have h1:=hX.out;simp only at e;rw[e,hl.out.tb]at h1;cases h1) (.pointer none));have H1:=hid (show(W9.setCell ⟨b,16,none⟩ (.pointer none)).cell? ⟨b,22,none⟩=some (.pointer (some ⟨L.dec,0,none⟩))/\(W9.setCell ⟨b,16,none⟩ (.pointer none)).cell? ⟨gp,2,none⟩=some (.slice A8 (l0.length+n) c8)from⟨hu.1.blk.cell 22,H0.out.cell 2⟩);have hK:=hid (show(W9.setCell ⟨b,16,none⟩ (.pointer none)).drew.cell? ⟨b,22,none⟩=some (.pointer (some ⟨L.dec,0,none⟩))/\(W9.setCell ⟨b,16,none⟩ (.pointer none)).drew.cell? ⟨gp,2,none⟩=some (.slice A8 (l0.length+n) c8)from H1.out);clear hu b1 z1 hI hZ e1 y16 y2 yf yx;generalize W9.setCell ⟨b,16,none⟩ (.pointer none)=W10 at*
  go_region_held3 (λW'=>W'.cell? ⟨b,22,none⟩=some (.pointer (some ⟨L.dec,0,none⟩))/\W'.cell? ⟨gp,2,none⟩=some (.slice A8 (l0.length+n) c8)) (first|with_reducible exact H1.out|with_reducible exact hK.out|with_reducible exact H2.out|with_reducible exact hN.out) (first
   |(go_at_call 194
     with_reducible refine Calls.mono Hl.out ?_
     rintro e w11 hp;rcases hp with⟨Hm,t'',A11,c11,hd,_⟩|⟨hH,a9,t9,rfl,h5,h6,h7⟩
     case inl=>exact absurd (HH.out.1.symm.trans hd) (by simp)
     have h0:=hid (show Go.Own.Cx.Fr W10 (offT ow1) w11 (offT ow1)from(Fr.drewN W10 (offT ow1) 1).trans h6);have h4:=hid (show CN w11 (offT ow1) b {M with list:=none,hp:=M.hp.lost t9} {L with list:=.pointer none}from h5);have hO:=hid (h0.out.blk H0.out (if_pos (.inl hX.out)));have H2:=hid (show w11.cell? ⟨b,22,none⟩=some (.pointer (some ⟨L.dec,0,none⟩))/\w11.cell? ⟨gp,2,none⟩=some (.slice A8 (l0.length+n) c8)from⟨h4.out.blk.cell 22,hO.out.cell 2⟩);have hN:=hid (show w11.drew.cell? ⟨b,22,none⟩=some (.pointer (some ⟨L.dec,0,none⟩))/\w11.drew.cell? ⟨gp,2,none⟩=some (.slice A8 (l0.length+n) c8)from H2.out);clear hH h5 h6 h7)
   |fail)
 all_goals
  simp only[ev]at*
  go_wp2_with (first
   |(go_at_call 70
     refine Calls.mono (give_any 9 0 _) ?_;rintro e w12 ⟨rfl,hw⟩;subst w12)
   |fail)
  first
   |exact⟨rfl,_,_,_,hq.out t9,rfl,h4.out,h2.out.trans h0.out⟩
   |exact⟨rfl,_,_,_,hq.out t9,rfl,h4.out.drew,(h2.out.trans h0.out).drew⟩
   |exact⟨rfl,_,_,_,hq.out t9,rfl,h4.out.drewN _,(h2.out.trans h0.out).trans (Fr.drewN _ _ _)⟩
end Go.Proofs.YtkpppjhbmnfmkaaGreatDoor
