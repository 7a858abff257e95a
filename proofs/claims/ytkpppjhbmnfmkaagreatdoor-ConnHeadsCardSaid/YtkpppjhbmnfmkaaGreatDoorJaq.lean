/-
  
  
  
-/
import Derived.Test.YtkpppjhbmnfmkaaGreatDoorJap
import Derived.Test.YtkpppjhbmnfmkaaGreatDoorJac
import Derived.Deep.RegionLaw
set_option linter.unusedSimpArgs false
set_option linter.unusedVariables false
section
set_option maxHeartbeats 4000000
set_option maxRecDepth 100000
namespace Go.Proofs.YtkpppjhbmnfmkaaGreatDoor
open Lib (hid)
open Go.RowKit Go.Own Go.Own.Im Go.Own.Cx Go.Own.Fr
theorem infC_ack:infC {typ:=4,ack:=true} (.slice none 0 0) (.slice none 0 0)= #[.int .i64 4,.int .i64 0,.int .i64 0,.bool false,.bool false,.bool true,.bool false,.bool false,.bool false,.int .i64 0,.int .i64 0,.int .i64 0,.int .i64 0,.int .i64 0,.int .i64 0,.int .i64 0,.slice none 0 0,.slice none 0 0]:=rfl
theorem flg_ack:flg {typ:=4,ack:=true}=1:=by decide
theorem pay_ack:pay {typ:=4,ack:=true}=[]:=rfl
theorem evC_plain (k s c l:Nat) (f:Bool):evC {kind:=k,stream:=s,code:=c,last:=l,fin:=f}= #[.int .i64 (k:Nat),.int .i64 (s:Nat),.int .i64 (c:Nat),.int .i64 (l:Nat),.bool f,.slice none 0 0,.slice none 0 0]:=rfl
theorem evOk_plain (w:World) (ow:Nat->Tg) (k s c l:Nat) (f:Bool):EvOk w ow {kind:=k,stream:=s,code:=c,last:=l,fin:=f}:=
 ⟨⟨Nat.le_refl _,Cm.RS.nil,λh=>absurd h (Nat.lt_irrefl _)⟩,⟨Nat.le_refl _,rd_nil0 w _,λh=>absurd h (Nat.lt_irrefl _)⟩⟩
theorem CPost.trans {w w1 w2:World} {ow ow1:Nat->Tg} {b:Nat} {M2:Cv} {v2:Value} {e2:Ending} (h:Fr w ow w1 ow1) (k:CPost w1 ow1 b M2 v2 e2 w2):CPost w ow b M2 v2 e2 w2:=by
 obtain⟨ow2,L2,e,hc,hf⟩:=k;exact⟨ow2,L2,e,hc,h.trans hf⟩
theorem settings_none (w:World) (ow:Nat->Tg) (b:Nat) (M:Cv) (L:Lay) (i:Inf) (S:Option Addr) (d:Nat) (dv sz:Value) (h:CN w ow b M L) (ha:i.ack=false) (ho:M.out.length<=1000000000) (hn:M.evs.length<=900000):
 Calls Tryz.prog 155 #[.pointer (some ⟨b,0,none⟩),.agg (infC i (.slice S 0 d) dv),sz] w (CPost w ow b {M with out:=M.out++frameB 4 1 0 [],evs:=M.evs++[{kind:=7}]} (.tuple #[])):=by
 have HX:=hid (Blk.new w 91 (infC i (.slice S 0 d) dv));have h0:=hid ((Below.refl w.heap.size w).alloc (Nat.le_refl _) (.cells (infC i (.slice S 0 d) dv) 91));have HC:=hid h;have HN:=hid hn;have HO:=hid ho;have HA:=hid ha;clear h hn ho ha;go_enter Tryz.func155,Tryz.ntmps155;go_upto_region 1 with fail;generalize w.alloc (.cells (infC i (.slice S 0 d) dv) 91)=W0 at*
 have h3:=hid (HC.out.below h0.out);have c5:W0.cell? ⟨w.heap.size,5,none⟩=some (.bool i.ack):=HX.out.cell 5;rw[HA.out]at c5;have c16:W0.cell? ⟨w.heap.size,16,none⟩=some (.slice S 0 d):=HX.out.cell 16;have HP:=put_any W0 ow b M L _ _ h3.out rfl (bld_ack W0) HO.out;rw[infC_ack,flg_ack,pay_ack]at HP;have HP:=hid HP;go_wp2_with fail;go_loop [60] (λt=>t= .int .i64 0) (λ_=>0)
 case atStart=>rfl
 case round=>
 obtain rfl:=hrel;go_wp2_with (first
  |(go_at_call 39
    refine HP.out.mono ?_;rintro e w1 ⟨ow1,L1,rfl,h1,h2⟩;have h4:=hid ((Fr.below h0.out ow).trans h2);have HT:=tell_any w1 ow1 b _ L1 {kind:=7} h1 (evOk_plain _ _ _ _ _ _ _) HN.out;rw[evC_plain]at HT;have HT:=hid HT;clear h1 h2)
  |(go_at_call 109
    refine HT.out.mono ?_;intro e w2 hp;obtain rfl:=hp.ret;have HQ:=hid hp;clear hp)
  |fail)
 go_end0;exact HQ.out.trans h4.out
end Go.Proofs.YtkpppjhbmnfmkaaGreatDoor
end

section
namespace Go.Proofs.YtkpppjhbmnfmkaaGreatDoor
open Go.RowKit Go.Own Go.Own.Im Go.Own.Cx
section
variable {w w':World} {ow ow':Nat->Tg} {b:Nat} {M:Cv} {L:Lay}
def CPostS (w:World) (ow:Nat->Tg) (b:Nat) (S:Cv->Prop) (v:Value) (e:Ending) (w':World):Prop:=∃M',S M'/\CPost w ow b M' v e w'
theorem CPostS.ret {v:Value} {e:Ending} {S:Cv->Prop} (h:CPostS w ow b S v e w'):e= .returned v:=by
 obtain⟨_,_,h⟩:=h;exact h.ret
theorem CPostS.trans {w1 w2:World} {ow1:Nat->Tg} {S:Cv->Prop} {v:Value} {e:Ending} (h:Fr w ow w1 ow1) (k:CPostS w1 ow1 b S v e w2):CPostS w ow b S v e w2:=by
 obtain⟨M',hs,k⟩:=k;exact⟨M',hs,k.trans h⟩
theorem CPostS.out {v:Value} {e:Ending} {S:Cv->Prop} (h:CPostS w ow b S v e w'):∃M' ow' L',S M'/\CN w' ow' b M' L'/\Fr w ow w' ow':=by
 obtain⟨M',hs,ow',L',_,hc,hf⟩:=h;exact⟨M',ow',L',hs,hc,hf⟩
def PPostS (w:World) (ow:Nat->Tg) (b:Nat) (S:Cv->Prop) (c s:Nat) (e:Ending) (w':World):Prop:=∃M' ow' L',S M'/\e= .panicked (fltE c s)/\CN w' ow' b M' L'/\Fr w ow w' ow'
theorem PPostS.ret {c s:Nat} {e:Ending} {S:Cv->Prop} (h:PPostS w ow b S c s e w'):e= .panicked (fltE c s):=by
 obtain⟨_,_,_,_,h,_⟩:=h;exact h
theorem PPostS.out {c s:Nat} {e:Ending} {S:Cv->Prop} (h:PPostS w ow b S c s e w'):∃M' ow' L',S M'/\CN w' ow' b M' L'/\Fr w ow w' ow':=by
 obtain⟨M',ow',L',hs,_,hc,hf⟩:=h;exact⟨M',ow',L',hs,hc,hf⟩
end
end Go.Proofs.YtkpppjhbmnfmkaaGreatDoor
end

section
set_option maxHeartbeats 8000000
set_option maxRecDepth 100000
namespace Go.Proofs.YtkpppjhbmnfmkaaGreatDoor
open Lib (hid)
open Go.RowKit Go.Own Go.Own.Im Go.Own.Cx Go.Own.Fr
attribute [local go_sem] Oper.semAt_some
theorem piece_more (w:World) (ow:Nat->Tg) (b:Nat) (M:Cv) (L:Lay) (id:Nat) (fin:Bool) (l0 l1:List UInt8) (i:Inf) (sv:Value) (A:Option Addr) (n c:Nat) (h:CN w ow b M L) (hL:M.list=some (id,fin,l0)) (he:i.endHeads=false) (hr:Rd w w.heap.size A n l1) (hn:l0.length+n<=16384):
 Calls Tryz.prog 150 #[.pointer (some ⟨b,0,none⟩),.agg (infC i sv (.slice A n c))] w (CPostS w ow b (λM'=>M'={M with list:=some (id,fin,l0++l1)}) (.tuple #[])):=by
 have HX:=hid (Blk.new w 91 (infC i sv (.slice A n c)));have h6:=hid ((Below.refl w.heap.size w).alloc (Nat.le_refl _) (.cells (infC i sv (.slice A n c)) 91));have HC:=hid h;have HR:=hid hr;have hi:=hid hL;have HE:=hid he;clear h hr hL he;go_enter Tryz.func150,Tryz.ntmps150;go_upto_region 1 with fail;generalize w.alloc (.cells (infC i sv (.slice A n c)) 91)=W0 at*
 have h0:=hid (HC.out.below h6.out);have h2:=h0.out.p.lst;rw[hi.out]at h2;obtain⟨gp,bv,h7,hj,h8,h9⟩:=h2;obtain⟨A0,c0,rfl,_,_⟩:=h9.form;have c16:W0.cell? ⟨b,16,none⟩=some L.list:=h0.out.blk.cell 16;rw[h7]at c16;have p2:W0.cell? ⟨gp,2,none⟩=some (.slice A0 l0.length c0):=h8.cell 2;have x17:W0.cell? ⟨w.heap.size,17,none⟩=some (.slice A n c):=HX.out.cell 17;have x4:W0.cell? ⟨w.heap.size,4,none⟩=some (.bool i.endHeads):=HX.out.cell 4;rw[HE.out]at x4;have ht:=hid (show Oz W0.drew (λg=>ow g= .blk) (.slice A0 l0.length c0) l0 from h9.drew);have hu:=hid (show Rd W0.drew w.heap.size A n l1 from(HR.out.below h6.out).drew);have hk:=hid hj;have hl:=hid (show Blk W0.drew gp 195 #[.int .i64 (id:Nat),.bool fin,.slice A0 l0.length c0]from h8);have hb:=hid h7;have hw:=hid (show l0.length+n<=140737488355328 by omega);have hA:=hid (show Blk W0.drew w.heap.size 91 (infC i sv (.slice A n c))from HX.out);have hC:=hid (show Blk W0.drew b 80 (cnC M L)from h0.out.blk);have hD:=hid h0.out.tb;clear h9 hj h8 h7;go_region_law
  ((refine step_app_z byteP _ (by rfl) (.tmp 18) (.tmp 20) (by rfl) (λg=>ow g= .blk) (.slice A0 l0.length c0) l0 (by rfl) ht.out w.heap.size A n c l1 (by rfl) hu.out hw.out ?_
    intro A8 c8 w8 row8 hm h3 h4;have hE:=hid hm;have hF:=hid h3;have hG:=hid h4;have hc:=hl.out.grown h3 (λe=>by have h1:=(h4 gp e.symm).1;rw[hk.out]at h1;cases h1);have hH:w8.frozen? ⟨gp,2,none⟩=false:=hc.frozen 2;have hI:w8.cell? ⟨gp,2,none⟩=some (.slice A0 l0.length c0):=hc.cell 2;have ho:=hC.out.grown h3 (λe=>by have h1:=(h4 b e.symm).1;rw[hD.out]at h1;cases h1);have hf:w8.cell? ⟨b,16,none⟩=some (.pointer (some ⟨gp,0,none⟩)):=by have h:=ho.cell 16;rw[<-hb.out];exact h
    clear hc ho hm h3 h4))
 all_goals
  obtain⟨ow1,h5,hd,hh,hq⟩:=(show CN W0.drew ow b M L from h0.out.drew).blocks hi.out hb.out hk.out hl.out hE.out hF.out hG.out;have hJ:=hid h5;have hK:=hid (show Fr w ow _ ow1 from((Fr.below h6.out ow).trans (Fr.drewN _ ow 1)).trans hd);have y16:(w8.setCell ⟨gp,2,none⟩ (.slice A8 (l0.length+n) c8)).cell? ⟨b,16,none⟩=some (.pointer (some ⟨gp,0,none⟩)):=by have h:=h5.blk.cell 16;rw[<-hb.out];exact h
  have y2:(w8.setCell ⟨gp,2,none⟩ (.slice A8 (l0.length+n) c8)).cell? ⟨gp,2,none⟩=some (.slice A8 (l0.length+n) c8):=hq.cell 2;have yf:=h5.blk.frozen 16;have yx:(w8.setCell ⟨gp,2,none⟩ (.slice A8 (l0.length+n) c8)).cell? ⟨w.heap.size,4,none⟩=some (.bool false):=by
   have hM:ow w.heap.size= .no:=HC.out.new _ (Nat.le_refl _);have h1:=((hd.blk hA.out hM)).cell 4;rw[<-HE.out];exact h1
  clear h5 hd hh hq hH hI hf;generalize w8.setCell ⟨gp,2,none⟩ (.slice A8 (l0.length+n) c8)=W9 at*
  have hN:¬(16384:Int)<((l0.length+n:Nat):Int):=by omega
  go_wp2;refine bodyPost_ret (v:=.tuple #[]) (by simp[results,Tryz.results150]) rfl ⟨_,rfl,ow1,L,rfl,hJ.out,hK.out⟩
theorem works2_any (w:World) (ow:Nat->Tg) (b g:Nat) (M:Cv) (L:Lay) (Q:Ending->World->Prop) (i:Inf) (sv dv sz:Value) (h:CN w ow b M L) (hg:Blk w g 26 #[.pointer (some ⟨b,0,none⟩)])
 (h0:∀e w',Q e w'->e= .returned (.tuple #[])\/∃cs,e= .panicked cs)
 (hp:∀W,CN W ow b M L->Fr w ow W ow->Calls Tryz.prog 150 #[.pointer (some ⟨b,0,none⟩),.agg (infC i sv dv)] W Q):
 Calls Tryz.prog 151 #[.agg (infC i sv dv),sz,.pointer (some ⟨g,0,none⟩)] w Q:=by
 have HX:=hid (Blk.new w 91 (infC i sv dv));have h1:=(Below.refl w.heap.size w).alloc (Nat.le_refl _) (.cells (infC i sv dv) 91);have h2:=hid (h.below h1);have h3:=hid (Fr.below h1 ow);have h4:=hid (hg.below h1 hg.lt);have HP:=hid hp;have HR:=hid h0;have h5:=hid (show(Tryz.prog.info? 91).map (·.size)=some (infC i sv dv).size from infSize);clear h hg hp h0 h1;go_enter Tryz.func151,Tryz.ntmps151;go_upto_region 1 with fail;generalize w.alloc (.cells (infC i sv dv) 91)=W0 at*
 have g0:W0.cell? ⟨g,0,none⟩=some (.pointer (some ⟨b,0,none⟩)):=h4.out.cell 0;go_wp2_with (first
  |(refine wpList_rowGet _ rfl (.tmp 3) 91 rfl w.heap.size 91 _ rfl HX.out _ Tryz.underlying91 rfl h5.out ?_)
  |fail)
 refine(HP.out W0 h2.out h3.out).mono ?_;intro e w2 hq;rcases HR.out e w2 hq with rfl|⟨cs,rfl⟩
 · have HQ:=hid hq
   clear hq;go_wp2;go_end0;exact HQ.out
 · have HQ:=hid hq
   clear hq;go_wp2;exact⟨rfl,HQ.out⟩
end Go.Proofs.YtkpppjhbmnfmkaaGreatDoor
end
