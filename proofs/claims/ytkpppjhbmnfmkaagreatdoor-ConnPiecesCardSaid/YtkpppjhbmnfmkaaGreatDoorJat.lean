/-
  
  
-/
import Derived.Test.YtkpppjhbmnfmkaaGreatDoorKp
import Derived.Test.YtkpppjhbmnfmkaaGreatDoorJao
import Derived.Test.YtkpppjhbmnfmkaaGreatDoorJan
import Derived.Test.YtkpppjhbmnfmkaaGreatDoorJam
import Derived.Test.YtkpppjhbmnfmkaaGreatDoorJac
import Derived.Deep.RegionLaw
import Derived.Deep.RegionHeld3
import Derived.Deep.DrawnRows
set_option linter.unusedSimpArgs false
set_option linter.unusedVariables false
section
namespace Go.Proofs.YtkpppjhbmnfmkaaGreatDoor
open Go.RowKit Go.Own Go.Own.Im Go.Own.Cx Go.Own.Fr
theorem Fr.tagNew {w w1:World} {ow ow1:Nat->Tg} (h:Go.Own.Cx.Fr w ow w1 ow1) {g:Nat} (hg:w.heap.size<=g) (t:Tg):Go.Own.Cx.Fr w ow w1 (upd ow1 g t):=⟨h.os,h.tape,h.output,h.size,h.keep,λj hj ho=>by rw[upd_other _ _ (by omega)];exact h.no j hj ho⟩
theorem oz_far {w:World} {ow:Nat->Tg} {A:Option Addr} {n c:Nat} {l:List UInt8} (z:Oz w (λj=>ow j= .blk) (.slice A n c) l) (hc:n<=c):0<n->∀ad,A=some ad->offT ow ad.block≠ .dec:=λh0 ad ha=>by
 obtain⟨A',c',e,h1,h2,h3⟩:=z;injection e with e1 e2 e3
 subst e1;subst e3;obtain⟨g,off,e2,ho,_⟩:=h3 (by omega);rw[ha]at e2;injection e2 with e2
 subst e2;show offT ow g≠ .dec;unfold offT;rw[if_pos (.inr ho)]
 decide
end Go.Proofs.YtkpppjhbmnfmkaaGreatDoor
end

section
set_option maxHeartbeats 8000000
set_option maxRecDepth 100000
namespace Go.Proofs.YtkpppjhbmnfmkaaGreatDoor
open Lib (hid)
open Go.RowKit Go.Own Go.Own.Im Go.Own.Cx Go.Own.Fr
attribute [local go_sem] Oper.semAt_some
theorem piece_bad (w:World) (ow:Nat->Tg) (b:Nat) (M:Cv) (S:Cv->Prop) (L:Lay) (id:Nat) (fin:Bool) (l0 l1:List UInt8) (i:Inf) (sv:Value) (A:Option Addr) (n c:Nat) (h:CN w ow b M L) (hE:EnvD w ow) (hN:M.hp.dgone=false) (hL:M.list=some (id,fin,l0)) (he:i.endHeads=true) (hr:Rd w w.heap.size A n l1) (hc:n<=c) (hn:l0.length+n<=16384)
 (h9:Hk.decP M.hp.dt (l0++l1)=none) (hS:∀t9,S {M with list:=none,hp:=M.hp.lost t9}):
 Calls Tryz.prog 150 #[.pointer (some ⟨b,0,none⟩),.agg (infC i sv (.slice A n c))] w (PPostS w ow b S 9 0):=by
 have HX:=hid (Blk.new w 91 (infC i sv (.slice A n c)));have hm:=hid ((Below.refl w.heap.size w).alloc (Nat.le_refl _) (.cells (infC i sv (.slice A n c)) 91));have HC:=hid h;have HR:=hid hr;have hq:=hid hS;have HH:=hid (show _/\True from⟨h9,trivial⟩);have hO:=hid hL;have HE:=hid he;have H1:=hid hN;have H2:=hid hE;clear hN h hr hS h9 hE hL he;go_enter Tryz.func150,Tryz.ntmps150;go_upto_region 1 with fail;generalize w.alloc (.cells (infC i sv (.slice A n c)) 91)=W0 at*
 have h8:=hid (HC.out.below hm.out);have hb:=h8.out.p.lst;rw[hO.out]at hb;obtain⟨gp,bv,hs,hP,ht,hA⟩:=hb;obtain⟨A0,c0,rfl,_,_⟩:=hA.form;have c16:W0.cell? ⟨b,16,none⟩=some L.list:=h8.out.blk.cell 16;rw[hs]at c16;have p2:W0.cell? ⟨gp,2,none⟩=some (.slice A0 l0.length c0):=ht.cell 2;have x17:W0.cell? ⟨w.heap.size,17,none⟩=some (.slice A n c):=HX.out.cell 17;have x4:W0.cell? ⟨w.heap.size,4,none⟩=some (.bool i.endHeads):=HX.out.cell 4;rw[HE.out]at x4;have H3:=hid (show Oz W0.drew (λg=>ow g= .blk) (.slice A0 l0.length c0) l0 from hA.drew);have H4:=hid (show Rd W0.drew w.heap.size A n l1 from(HR.out.below hm.out).drew);have hQ:=hid hP;have hR:=hid (show Blk W0.drew gp 195 #[.int .i64 (id:Nat),.bool fin,.slice A0 l0.length c0]from ht);have hh:=hid hs;have H5:=hid (show l0.length+n<=140737488355328 by omega);have H7:=hid (show Blk W0.drew w.heap.size 91 (infC i sv (.slice A n c))from HX.out);have H8:=hid (show Blk W0.drew b 80 (cnC M L)from h8.out.blk);have H9:=hid h8.out.tb;clear hA hP ht hs;go_region_law
  ((refine step_app_z byteP _ (by rfl) (.tmp 18) (.tmp 20) (by rfl) (λg=>ow g= .blk) (.slice A0 l0.length c0) l0 (by rfl) H3.out w.heap.size A n c l1 (by rfl) H4.out H5.out ?_
    intro A8 c8 w8 row8 hT hi hj;have Ha:=hid hT;have Hb:=hid hi;have Hc:=hid hj;have hC:=hR.out.grown hi (λe=>by have h1:=(hj gp e.symm).1;rw[hQ.out]at h1;cases h1);have He:w8.frozen? ⟨gp,2,none⟩=false:=hC.frozen 2;have Hg:w8.cell? ⟨gp,2,none⟩=some (.slice A0 l0.length c0):=hC.cell 2;have hU:=H8.out.grown hi (λe=>by have h1:=(hj b e.symm).1;rw[H9.out]at h1;cases h1);have hI:w8.cell? ⟨b,16,none⟩=some (.pointer (some ⟨gp,0,none⟩)):=by have h:=hU.cell 16;rw[<-hh.out];exact h
    clear hC hU hT hi hj))
 all_goals
  obtain⟨ow1,hk,hD,hf,hF⟩:=(show CN W0.drew ow b M L from h8.out.drew).blocks hO.out hh.out hQ.out hR.out Ha.out Hb.out Hc.out;have hl:=hid hk;have Hh:=hid (show Fr w ow _ ow1 from((Fr.below hm.out ow).trans (Fr.drewN _ ow 1)).trans hD);have hV:=hid hf;have hW:=hid hF;have y16:(w8.setCell ⟨gp,2,none⟩ (.slice A8 (l0.length+n) c8)).cell? ⟨b,16,none⟩=some (.pointer (some ⟨gp,0,none⟩)):=by have h:=hk.blk.cell 16;rw[<-hh.out];exact h
  have y2:(w8.setCell ⟨gp,2,none⟩ (.slice A8 (l0.length+n) c8)).cell? ⟨gp,2,none⟩=some (.slice A8 (l0.length+n) c8):=hF.cell 2;have yf:=hk.blk.frozen 16;have yx:(w8.setCell ⟨gp,2,none⟩ (.slice A8 (l0.length+n) c8)).cell? ⟨w.heap.size,4,none⟩=some (.bool true):=by
   have hG:ow w.heap.size= .no:=HC.out.new _ (Nat.le_refl _);have h1:=((hD.blk H7.out hG)).cell 4;rw[<-HE.out];exact h1
  clear hk hD hf hF He Hg hI;generalize w8.setCell ⟨gp,2,none⟩ (.slice A8 (l0.length+n) c8)=W9 at*
  go_wp2_with fail;have hu:=hl.out.unlists;have h2:=hid (Hh.out.trans hu.2);obtain⟨g',bv',e1,_,b1,z1⟩:=hl.out.p.lst;obtain rfl:gp=g':=by
   have h1:=hh.out.symm.trans e1;injection h1 with h1;injection h1 with h1;injection h1
  obtain rfl:Value.slice A8 (l0.length+n) c8=bv':=by
   have h1:=(hW.out.cell 2).symm.trans (b1.cell 2)
   simpa using h1
  have hH:l0.length+n<=c8:=by
   obtain⟨_,_,e3,h3,_⟩:=z1.form;injection e3 with _ e4 e5
   omega
  have hX:=(z1.grown (grown_setCell (World.grownBy.refl W9 (some b)) 16 (.pointer none)) (λg e ho=>by injection e with e;rw[<-e,hl.out.tb]at ho;cases ho)).rd;have Hi:=hid (decode_cn (w:=(W9.setCell ⟨b,16,none⟩ (.pointer none)).drew) hu.1.drew (H2.out.fr h2.out.drew) H1.out A8 (l0.length+n) c8 _ (l0++l1) hX.drew (Nat.le_refl _) hH (by omega) (oz_far z1 hH));have hY:=hid (hW.out.far (p:=⟨b,16,none⟩) (λe=>by have h1:=hV.out;simp only at e;rw[e,hl.out.tb]at h1;cases h1) (.pointer none));have hZ:=hid (show(W9.setCell ⟨b,16,none⟩ (.pointer none)).cell? ⟨b,22,none⟩=some (.pointer (some ⟨L.dec,0,none⟩))/\(W9.setCell ⟨b,16,none⟩ (.pointer none)).cell? ⟨gp,2,none⟩=some (.slice A8 (l0.length+n) c8)from⟨hu.1.blk.cell 22,hY.out.cell 2⟩);have hJ:=hid (show(W9.setCell ⟨b,16,none⟩ (.pointer none)).drew.cell? ⟨b,22,none⟩=some (.pointer (some ⟨L.dec,0,none⟩))/\(W9.setCell ⟨b,16,none⟩ (.pointer none)).drew.cell? ⟨gp,2,none⟩=some (.slice A8 (l0.length+n) c8)from hZ.out);clear hu b1 z1 hH hX e1 y16 y2 yf yx;generalize W9.setCell ⟨b,16,none⟩ (.pointer none)=W10 at*
  go_region_held3 (λW'=>W'.cell? ⟨b,22,none⟩=some (.pointer (some ⟨L.dec,0,none⟩))/\W'.cell? ⟨gp,2,none⟩=some (.slice A8 (l0.length+n) c8)) (first|with_reducible exact hZ.out|with_reducible exact hJ.out|with_reducible exact H0.out|with_reducible exact hK.out) (first
   |(go_at_call 194
     with_reducible refine Calls.mono Hi.out ?_
     rintro e w11 hp;rcases hp with⟨Hj,t'',A11,c11,hd,_⟩|⟨hG,a9,t9,rfl,h5,h6,h7⟩
     case inl=>exact absurd (HH.out.1.symm.trans hd) (by simp)
     have h0:=hid (show Go.Own.Cx.Fr W10 (offT ow1) w11 (offT ow1)from(Fr.drewN W10 (offT ow1) 1).trans h6);have h4:=hid (show CN w11 (offT ow1) b {M with list:=none,hp:=M.hp.lost t9} {L with list:=.pointer none}from h5);have hM:=hid (h0.out.blk hY.out (if_pos (.inl hV.out)));have H0:=hid (show w11.cell? ⟨b,22,none⟩=some (.pointer (some ⟨L.dec,0,none⟩))/\w11.cell? ⟨gp,2,none⟩=some (.slice A8 (l0.length+n) c8)from⟨h4.out.blk.cell 22,hM.out.cell 2⟩);have hK:=hid (show w11.drew.cell? ⟨b,22,none⟩=some (.pointer (some ⟨L.dec,0,none⟩))/\w11.drew.cell? ⟨gp,2,none⟩=some (.slice A8 (l0.length+n) c8)from H0.out);clear hG h5 h6 h7)
   |fail)
 all_goals
  simp only[ev]at*
  go_wp2_with (first
   |(go_at_call 70
     refine Calls.mono (give_any 9 0 _) ?_;rintro e w12 ⟨rfl,hw⟩;subst w12)
   |fail)
  first
   |exact⟨rfl,_,_,_,hq.out t9,rfl,h4.out,h2.out.trans h0.out⟩
   |exact⟨rfl,_,_,_,hq.out t9,rfl,h4.out.drew,(h2.out.trans h0.out).drew⟩
   |exact⟨rfl,_,_,_,hq.out t9,rfl,h4.out.drewN _,(h2.out.trans h0.out).trans (Fr.drewN _ _ _)⟩
end Go.Proofs.YtkpppjhbmnfmkaaGreatDoor
end
