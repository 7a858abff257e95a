import Derived.Test.YtkpppjhbmnfmkaaGreatDoorJat
set_option linter.unusedSimpArgs false
set_option linter.unusedVariables false
set_option maxHeartbeats 8000000
set_option maxRecDepth 100000
namespace Go.Proofs.YtkpppjhbmnfmkaaGreatDoor
open Go.RowKit Go.Own Go.Own.Im Go.Own.Cx Go.Own.Fr
attribute [local go_sem] Oper.semAt_some
theorem piece_there (w:World) (ow:Nat->Tg) (b:Nat) (M:Cv) (Q:Ending->World->Prop) (L:Lay) (id:Nat) (fin:Bool) (l0 l1:List UInt8) (i:Inf) (sv:Value) (A:Option Addr) (n c:Nat) (hs:List Hd.HdrV) (t':Hk.TM) (h:CN w ow b M L) (hE:EnvD w ow) (H9:M.hp.dgone=false) (hL:M.list=some (id,fin,l0)) (he:i.endHeads=true) (hr:Rd w w.heap.size A n l1) (hc:n<=c) (hn:l0.length+n<=16384)
 (hk:Hk.decP M.hp.dt (l0++l1)=some (hs,t')) (s:Sv) (Ha:strAt M (id:Int)=some s) (hid:id<=2147483647) (hl:∀e w',Q e w'->e= .returned (.tuple #[])\/∃cs,e= .panicked cs)
 (Hb:∀W ow' L' A c,CN W ow' b {M with list:=none,hp:=M.hp.turned t'} L'->Go.Own.Cx.Fr w ow W ow'->hs.length<=c->hszs hs<=16384->Cm.RS hdrC 3 W W.heap.size A hs.length hs->(0<hs.length->∀ad,A=some ad->ow' ad.block= .evd)->Calls Tryz.prog 195 #[.pointer (some ⟨b,0,none⟩),.pointer (some ⟨(L'.s s.id).sb,0,none⟩),.slice A hs.length c,.bool fin] W Q):
 Calls Tryz.prog 150 #[.pointer (some ⟨b,0,none⟩),.agg (infC i sv (.slice A n c))] w Q:=by
 have HX:=Lib.hid (Blk.new w 91 (infC i sv (.slice A n c)));have hN:=Lib.hid ((Below.refl w.heap.size w).alloc (Nat.le_refl _) (.cells (infC i sv (.slice A n c)) 91));have HC:=Lib.hid h;have HR:=Lib.hid hr;have Hs:=Lib.hid Hb;have HH:=Lib.hid (show _/\_/\_ from⟨hk,Ha,hid⟩);have hY:=Lib.hid hl;have Hc:=Lib.hid hL;have HE:=Lib.hid he;have Ht:=Lib.hid H9;have Hu:=Lib.hid hE;clear H9 h hr Hb hk Ha hid hE hL he hl;go_enter Tryz.func150,Tryz.ntmps150;go_upto_region 1 with fail;generalize w.alloc (.cells (infC i sv (.slice A n c)) 91)=W0 at*
 have hj:=Lib.hid (HC.out.below hN.out);have hm:=hj.out.p.lst;rw[Hc.out]at hm;obtain⟨gp,bv,hO,He,hP,hQ⟩:=hm;obtain⟨A0,c0,rfl,_,_⟩:=hQ.form;have c16:W0.cell? ⟨b,16,none⟩=some L.list:=hj.out.blk.cell 16;rw[hO]at c16;have p2:W0.cell? ⟨gp,2,none⟩=some (.slice A0 l0.length c0):=hP.cell 2;have x17:W0.cell? ⟨w.heap.size,17,none⟩=some (.slice A n c):=HX.out.cell 17;have x4:W0.cell? ⟨w.heap.size,4,none⟩=some (.bool i.endHeads):=HX.out.cell 4;rw[HE.out]at x4;have Hv:=Lib.hid (show Oz W0.drew (λg=>ow g= .blk) (.slice A0 l0.length c0) l0 from hQ.drew);have Hx:=Lib.hid (show Rd W0.drew w.heap.size A n l1 from(HR.out.below hN.out).drew);have Hg:=Lib.hid He;have Hh:=Lib.hid (show Blk W0.drew gp 195 #[.int .i64 (id:Nat),.bool fin,.slice A0 l0.length c0]from hP);have hH:=Lib.hid hO;have Hy:=Lib.hid (show l0.length+n<=140737488355328 by omega);have HB:=Lib.hid (show Blk W0.drew w.heap.size 91 (infC i sv (.slice A n c))from HX.out);have HD:=Lib.hid (show Blk W0.drew b 80 (cnC M L)from hj.out.blk);have HF:=Lib.hid hj.out.tb;clear hQ He hP hO;go_region_law
  ((refine step_app_z byteP _ (by rfl) (.tmp 18) (.tmp 20) (by rfl) (λg=>ow g= .blk) (.slice A0 l0.length c0) l0 (by rfl) Hv.out w.heap.size A n c l1 (by rfl) Hx.out Hy.out ?_
    intro A8 c8 w8 row8 Hi hI hJ;have HG:=Lib.hid Hi;have HI:=Lib.hid hI;have HK:=Lib.hid hJ;have hR:=Hh.out.grown hI (λe=>by have h1:=(hJ gp e.symm).1;rw[Hg.out]at h1;cases h1);have HN:w8.frozen? ⟨gp,2,none⟩=false:=hR.frozen 2;have HO:w8.cell? ⟨gp,2,none⟩=some (.slice A0 l0.length c0):=hR.cell 2;have Hj:=HD.out.grown hI (λe=>by have h1:=(hJ b e.symm).1;rw[HF.out]at h1;cases h1);have hZ:w8.cell? ⟨b,16,none⟩=some (.pointer (some ⟨gp,0,none⟩)):=by have h:=Hj.cell 16;rw[<-hH.out];exact h
    clear hR Hj Hi hI hJ))
 all_goals
  obtain⟨ow1,hK,hS,hq,hT⟩:=(show CN W0.drew ow b M L from hj.out.drew).blocks Hc.out hH.out Hg.out Hh.out HG.out HI.out HK.out;have hM:=Lib.hid hK;have HS:=Lib.hid (show Fr w ow _ ow1 from((Fr.below hN.out ow).trans (Fr.drewN _ ow 1)).trans hS);have hU:=Lib.hid hq;have Hl:=Lib.hid hT;have y16:(w8.setCell ⟨gp,2,none⟩ (.slice A8 (l0.length+n) c8)).cell? ⟨b,16,none⟩=some (.pointer (some ⟨gp,0,none⟩)):=by have h:=hK.blk.cell 16;rw[<-hH.out];exact h
  have y2:(w8.setCell ⟨gp,2,none⟩ (.slice A8 (l0.length+n) c8)).cell? ⟨gp,2,none⟩=some (.slice A8 (l0.length+n) c8):=hT.cell 2;have yf:=hK.blk.frozen 16;have yx:(w8.setCell ⟨gp,2,none⟩ (.slice A8 (l0.length+n) c8)).cell? ⟨w.heap.size,4,none⟩=some (.bool true):=by
   have hV:ow w.heap.size= .no:=HC.out.new _ (Nat.le_refl _);have h1:=((hS.blk HB.out hV)).cell 4;rw[<-HE.out];exact h1
  clear hK hS hq hT HN HO hZ;generalize w8.setCell ⟨gp,2,none⟩ (.slice A8 (l0.length+n) c8)=W9 at*
  go_wp2_with fail;have hu:=hM.out.unlists;have hb:=Lib.hid (HS.out.trans hu.2);obtain⟨g',bv',e1,_,b1,z1⟩:=hM.out.p.lst;obtain rfl:gp=g':=by
   have h1:=hH.out.symm.trans e1;injection h1 with h1;injection h1 with h1;injection h1
  obtain rfl:Value.slice A8 (l0.length+n) c8=bv':=by
   have h1:=(Hl.out.cell 2).symm.trans (b1.cell 2)
   simpa using h1
  have hW:l0.length+n<=c8:=by
   obtain⟨_,_,e3,h3,_⟩:=z1.form;injection e3 with _ e4 e5
   omega
  have Hm:=(z1.grown (grown_setCell (World.grownBy.refl W9 (some b)) 16 (.pointer none)) (λg e ho=>by injection e with e;rw[<-e,hM.out.tb]at ho;cases ho)).rd;have HT:=Lib.hid (decode_cn (w:=(W9.setCell ⟨b,16,none⟩ (.pointer none)).drew) hu.1.drew (Hu.out.fr hb.out.drew) Ht.out A8 (l0.length+n) c8 _ (l0++l1) Hm.drew (Nat.le_refl _) hW (by omega) (oz_far z1 hW));have H0:=Lib.hid hu.1;have hX:=Lib.hid (Hl.out.far (p:=⟨b,16,none⟩) (λe=>by have h1:=hU.out;simp only at e;rw[e,hM.out.tb]at h1;cases h1) (.pointer none));have Hn:=Lib.hid (show(W9.setCell ⟨b,16,none⟩ (.pointer none)).cell? ⟨b,22,none⟩=some (.pointer (some ⟨L.dec,0,none⟩))/\(W9.setCell ⟨b,16,none⟩ (.pointer none)).cell? ⟨gp,2,none⟩=some (.slice A8 (l0.length+n) c8)from⟨hu.1.blk.cell 22,hX.out.cell 2⟩);have H1:=Lib.hid (show(W9.setCell ⟨b,16,none⟩ (.pointer none)).drew.cell? ⟨b,22,none⟩=some (.pointer (some ⟨L.dec,0,none⟩))/\(W9.setCell ⟨b,16,none⟩ (.pointer none)).drew.cell? ⟨gp,2,none⟩=some (.slice A8 (l0.length+n) c8)from Hn.out);clear hu b1 z1 hW Hm e1 y16 y2 yf yx;generalize W9.setCell ⟨b,16,none⟩ (.pointer none)=W10 at*
  go_region_held3 (λW'=>W'.cell? ⟨b,22,none⟩=some (.pointer (some ⟨L.dec,0,none⟩))/\W'.cell? ⟨gp,2,none⟩=some (.slice A8 (l0.length+n) c8)) (first|with_reducible exact Hn.out|with_reducible exact H1.out|with_reducible exact Ho.out|with_reducible exact H2.out) (first
   |(go_at_call 194
     with_reducible refine Calls.mono HT.out ?_
     rintro e w11 hp;rcases hp with⟨HU,t'',A11,c11,hd,rfl,ht,h6,h7,hw,h8,h9,hi⟩|⟨hV,_⟩
     case inr=>exact absurd (HH.out.1.symm.trans hV) (by simp)
     obtain⟨rfl,rfl⟩:hs=HU/\t'=t'':=by
      have h1:=HH.out.1.symm.trans hd;injection h1 with h1
      injection h1 with h1 h2
      exact⟨h1,h2⟩
     have h4:=Lib.hid (show Go.Own.Cx.Fr W10 (offT ow1) w11 (offT ow1)from(Fr.drewN W10 (offT ow1) 1).trans h9);have H3:=Lib.hid ht;have hA:=Lib.hid h6;have H4:=Lib.hid (show 0<hs.length->∀ad,A11=some ad->W10.heap.size<=ad.block from h7);have H5:=Lib.hid hw;have hf:=Lib.hid (show CN w11 (offT ow1) b {M with list:=none,hp:=M.hp.turned t'} {L with list:=.pointer none}from h8);have hh:=Lib.hid (h4.out.blk hX.out (if_pos (.inl hU.out)));have Ho:=Lib.hid (show w11.cell? ⟨b,22,none⟩=some (.pointer (some ⟨L.dec,0,none⟩))/\w11.cell? ⟨gp,2,none⟩=some (.slice A8 (l0.length+n) c8)from⟨hf.out.blk.cell 22,hh.out.cell 2⟩);have H2:=Lib.hid (show w11.drew.cell? ⟨b,22,none⟩=some (.pointer (some ⟨L.dec,0,none⟩))/\w11.drew.cell? ⟨gp,2,none⟩=some (.slice A8 (l0.length+n) c8)from Ho.out);clear hd ht h6 h7 hw h8 h9 hi)
   |fail)
 all_goals
  have H7:∃ow12,CN w11 ow12 b {M with list:=none,hp:=M.hp.turned t'} {L with list:=.pointer none}/\Go.Own.Cx.Fr w ow w11 ow12/\(0<hs.length->∀ad,A11=some ad->ow12 ad.block= .evd)/\ow12 gp= .no:=by
   have hC:offT ow1 gp= .no:=if_pos (.inl hU.out);rcases Nat.eq_zero_or_pos hs.length with h0|h0
   · exact⟨offT ow1,hf.out,hb.out.trans h4.out,λh=>absurd h (by omega),hC⟩
   · obtain⟨ad,ha,HV,_⟩:=hA.out.2 0 _ (List.getElem?_eq_getElem h0)
     have Hp:W10.heap.size<=ad.block:=H4.out h0 ad ha;exact⟨_,hf.out.tag (H0.out.new _ Hp) HV .evd,hb.out.trans (Fr.tagNew h4.out Hp .evd),λ_ ad2 h2=>by rw[ha]at h2;injection h2 with h2;subst h2;exact upd_same _ _ _,by rw[upd_other _ _ (by have:=hX.out.lt;omega)];exact hC⟩
  obtain⟨ow12,h5,hD,hF,hG⟩:=H7;have Hq:(Lit.int .i64 (id:Int)).wf=true:=by have:=HH.out.2.2;simp[Lit.wf,IntKind.min,IntKind.max,IntKind.bits,IntKind.signed];omega
  have HW:=λn=>look_str (h5.drewN n) (id:Int) Hq;rw[(at_some (show strAt {M with list:=none,hp:=M.hp.turned t'} (id:Int)=some s from HH.out.2.1)).1]at HW;have c15:w11.cell? ⟨b,15,none⟩=some (.map (some L.mb)):=h5.blk.cell 15;have q0:w11.cell? ⟨gp,0,none⟩=some (.int .i64 (id:Nat)):=hh.out.cell 0;have q1:w11.cell? ⟨gp,1,none⟩=some (.bool fin):=hh.out.cell 1;have H8:=Lib.hid (λn=>Hs.out (w11.drewN n) ow12 _ A11 c11 (h5.drewN n) (hD.trans (Fr.drewN _ _ n)) H3.out H5.out (hA.out.keep (Nat.le_refl _) λ_ _ _ _=>rfl) hF);clear h5 hD hF Hq hG;go_wp2_with fail;go_quiet (fail);go_wp2_with (first
   |(go_at_call 195
     refine(H8.out _).mono ?_;intro e w13 hp;rcases hY.out e w13 hp with rfl|⟨cs,rfl⟩
     all_goals have HQ:=Lib.hid hp
     all_goals clear hp)
   |fail)
 all_goals first
  |(go_end0
    exact HQ.out)
  |exact⟨rfl,HQ.out⟩
end Go.Proofs.YtkpppjhbmnfmkaaGreatDoor
