/-
  
  
  
  
  
  
-/
import Derived.Test.YtkpppjhbmnfmkaaGreatDoorJab
import Derived.Test.YtkpppjhbmnfmkaaGreatDoorJao
import Derived.Test.YtkpppjhbmnfmkaaGreatDoorJan
import Derived.Deep.RegionLaw
import Derived.Test.YtkpppjhbmnfmkaaGreatDoorF7
import Derived.Test.YtkpppjhbmnfmkaaGreatDoorJak
import Derived.Test.YtkpppjhbmnfmkaaGreatDoorIt
import Derived.Test.YtkpppjhbmnfmkaaGreatDoorJaw
set_option linter.unusedSimpArgs false
set_option linter.unusedVariables false
section
namespace Go.Proofs.YtkpppjhbmnfmkaaGreatDoor
open Go.RowKit Go.Own Go.Own.Im Go.Own.Cx
section
variable {w w':World} {ow ow':Nat->Tg} {b:Nat} {M:Cv} {L:Lay}
def CPostS (w:World) (ow:Nat->Tg) (b:Nat) (S:Cv->Prop) (v:Value) (e:Ending) (w':World):Prop:=∃M',S M'/\CPost w ow b M' v e w'
theorem CPostS.ret {v:Value} {e:Ending} {S:Cv->Prop} (h:CPostS w ow b S v e w'):e= .returned v:=by
 obtain⟨_,_,h⟩:=h;exact h.ret
theorem CPostS.trans {w1 w2:World} {ow1:Nat->Tg} {S:Cv->Prop} {v:Value} {e:Ending} (h:Fr w ow w1 ow1) (k:CPostS w1 ow1 b S v e w2):CPostS w ow b S v e w2:=by
 obtain⟨M',hs,k⟩:=k;exact⟨M',hs,k.trans h⟩
theorem CPostS.out {v:Value} {e:Ending} {S:Cv->Prop} (h:CPostS w ow b S v e w'):∃M' ow' L',S M'/\CN w' ow' b M' L'/\Fr w ow w' ow':=by
 obtain⟨M',hs,ow',L',_,hc,hf⟩:=h;exact⟨M',ow',L',hs,hc,hf⟩
def PPostS (w:World) (ow:Nat->Tg) (b:Nat) (S:Cv->Prop) (c s:Nat) (e:Ending) (w':World):Prop:=∃M' ow' L',S M'/\e= .panicked (fltE c s)/\CN w' ow' b M' L'/\Fr w ow w' ow'
theorem PPostS.ret {c s:Nat} {e:Ending} {S:Cv->Prop} (h:PPostS w ow b S c s e w'):e= .panicked (fltE c s):=by
 obtain⟨_,_,_,_,h,_⟩:=h;exact h
theorem PPostS.out {c s:Nat} {e:Ending} {S:Cv->Prop} (h:PPostS w ow b S c s e w'):∃M' ow' L',S M'/\CN w' ow' b M' L'/\Fr w ow w' ow':=by
 obtain⟨M',ow',L',hs,_,hc,hf⟩:=h;exact⟨M',ow',L',hs,hc,hf⟩
end
end Go.Proofs.YtkpppjhbmnfmkaaGreatDoor
end

section
namespace Go.Proofs.YtkpppjhbmnfmkaaGreatDoor
open Go.RowKit Go.Own Go.Own.Im Go.Own.Cx Go.Own.Fr
attribute [local go_sem] Oper.semAt_some
end Go.Proofs.YtkpppjhbmnfmkaaGreatDoor
end

section
namespace Go.Proofs.YtkpppjhbmnfmkaaGreatDoor
open Go.RowKit Go.Own Go.Own.Im Go.Own.Cx Go.Own.Fr
attribute [local go_sem] Oper.semAt_some
end Go.Proofs.YtkpppjhbmnfmkaaGreatDoor
end

section
namespace Go.Proofs.YtkpppjhbmnfmkaaGreatDoor
open Go.RowKit Go.Own Go.Own.Im Go.Own.Cx Go.Own.Fr
attribute [local go_sem] Oper.semAt_some
end Go.Proofs.YtkpppjhbmnfmkaaGreatDoor
end

section
set_option maxHeartbeats 4000000
set_option maxRecDepth 100000
namespace Go.Proofs.YtkpppjhbmnfmkaaGreatDoor
open Lib (hid)
open Go.RowKit Go.Own Go.Own.Im Go.Own.Cx Go.Own.Fr
attribute [local go_sem] Oper.semAt_some
def _root_.Go.Own.Cx.HpM.sized (H:HpM) (n:Nat):HpM:={H with et:=Hk.TM.resize H.et n,asked:=true,least:=if H.asked=false\/n<H.least then n else H.least}
theorem CN.encs {w w':World} {ow:Nat->Tg} {b:Nat} {M:Cv} {L:Lay} (h:CN w ow b M L) {X:Nat->Prop} (hb:Bar X w.heap.size w w') (hX:∀j,X j->ow j= .enc) {H':HpM} (he:H'.dt=M.hp.dt/\H'.dgone=M.hp.dgone) (hd:EncS w' (λg=>ow g= .enc) L.enc H'):
 CN w' ow b {M with hp:=H'} L/\Fr w ow w' ow:=by
 have k:Kp (λx=>x= .enc) w ow w' ow:=⟨hb.size,λg hn ht h0=>⟨hb.block g h0 λhx=>ht (hX g hx),rfl⟩⟩;have h5:=h.blkK k (by decide);have h4:DecS w' (λg=>ow g= .dec) L.dec H':=by
  obtain⟨tb,h1,h2,h3⟩:=h.p.decK k (by decide);exact⟨tb,by rw[he.2];exact h1,h2,by rw[he.1];exact h3⟩
 exact⟨⟨h5.1,h5.2,⟨h.p.fedK k (by decide),h.p.outK k (by decide),h.p.evK k (by decide) (by decide),(h.p.inwK k (by decide)).1,(h.p.inwK k (by decide)).2,(h.p.outwK k (by decide)).1,(h.p.outwK k (by decide)).2,(h.p.mapK k (by decide)).1,(h.p.mapK k (by decide)).2,
  λs hs=>h.p.strK k s hs (by intro j;simp),h.p.lstK k (by decide) (by decide),hd,h4⟩,λg hg=>h.new g (Nat.le_trans hb.size hg)⟩,
  ⟨hb.os,hb.tape,hb.output,hb.size,λg h0 h6=>hb.block g h0 λhx=>by have:=hX g hx;rw[h6]at this;exact Tg.noConfusion this,λ_ _ h=>h⟩⟩
theorem enc_resize (w:World) (ow:Nat->Tg) (b:Nat) (M:Cv) (L:Lay) (n:Nat) (h:CN w ow b M L) (hn:n<=4096):
 Calls Tryz.prog 198 #[.pointer (some ⟨L.enc,0,none⟩),.int .i64 (n:Nat)] w λe w'=>e= .returned .nilIface/\CN w' ow b {M with hp:=M.hp.sized n} L/\Fr w ow w' ow:=by
 obtain⟨tb,h7,hh,hi,hl⟩:=h.p.enc;obtain⟨r,ht,ho,hu,hz,hm⟩:=hl.ring;have hne:L.enc≠tb/\L.enc≠r:=by
  obtain⟨old,cs,h1,h2,_⟩:=ht;exact⟨blk_ne h7 h1 (by decide),blk_ne h7 h2 (by decide)⟩
 have HT:=hid (tresize_any w tb r M.hp.et.E M.hp.et.most n ht hn);have HC:=hid h;have HH:=hid (show _/\_/\_/\_/\_/\_/\_/\_ from⟨hne.1,hne.2,hh,hi,ho,hu,hz,hn⟩);have hw:=hid h7;have c0:w.cell? ⟨L.enc,0,none⟩=some (.pointer (some ⟨tb,0,none⟩)):=h7.cell 0;have hA:∃q,M.hp.least=q:=⟨_,rfl⟩;obtain⟨q,hq⟩:=hA;clear h hn h7 hh hi hl ht ho hu hz hm hne;have fin:∀(w1 w2:World) (k:Nat),TabR w1 tb r (Hk.TM.resize ⟨M.hp.et.E,M.hp.et.most⟩ n).E n->Bar (λj=>j=tb\/j=r) w.heap.size w w1->Blk w2 L.enc 135 #[.pointer (some ⟨tb,0,none⟩),.int .i64 (k:Nat),.bool true]->w1.grownBy w2 (some L.enc)->(M.hp.sized n).least=k->
  CN w2 ow b {M with hp:=M.hp.sized n} L/\Fr w ow w2 ow:=λw1 w2 k h8 h0 hC hg hk=>by
  have h9:=h8.lt;have h1:=HH.out.1;have h2:=HH.out.2.1;have he:Bar (λj=>j=L.enc\/j=tb\/j=r) w.heap.size w w2:=⟨hg.os.trans h0.os,hg.tape.trans h0.tape,hg.output.trans h0.output,Nat.le_trans h0.size hg.size,λj hj hx=>
   (hg.block j (Nat.lt_of_lt_of_le hj h0.size) (λe=>by injection e with e;exact hx (.inl e))).trans (h0.block j hj λhy=>hx (.inr hy))⟩
  refine HC.out.encs he (λj hj=>?_) ⟨rfl,rfl⟩ ?_
  · rcases hj with rfl|rfl|rfl
    · exact HH.out.2.2.1
    · exact HH.out.2.2.2.2.1
    · exact HH.out.2.2.2.2.2.1
  · refine⟨tb,hk▸hC,HH.out.2.2.1,?_,?_⟩
    · have h3:=HH.out.2.2.2.2.2.2.2
      have h4:=HH.out.2.2.2.1;show(if M.hp.asked=false\/n<M.hp.least then n else M.hp.least)<=4096
      split<;>omega
    · refine(h8.keep (hg.block tb h9.1 (λe=>by injection e with e;exact h1 e.symm)) (hg.block r h9.2 (λe=>by injection e with e;exact h2 e.symm))).tabS HH.out.2.2.2.2.1 HH.out.2.2.2.2.2.1 ?_ HH.out.2.2.2.2.2.2.2
      exact Hk.shrink_le _ _
 have h6:=hid fin;clear fin;go_enter Tryz.func198,Tryz.ntmps198;go_wp2_with fail;refine HT.out.mono ?_;rintro e w1 ⟨rfl,h8,h0⟩;have h5:=hid (show Blk w1 L.enc 135 #[.pointer (some ⟨tb,0,none⟩),.int .i64 (M.hp.least:Nat),.bool M.hp.asked]from h0.blk hw.out hw.out.lt (by rintro(e|e);exact HH.out.1 e;exact HH.out.2.1 e));have hc:=hid h8;have hd:=hid h0;have c1:w1.cell? ⟨L.enc,1,none⟩=some (.int .i64 (M.hp.least:Nat)):=h5.out.cell 1;have c2:w1.cell? ⟨L.enc,2,none⟩=some (.bool M.hp.asked):=h5.out.cell 2;have f1:=h5.out.frozen 1;have f2:=h5.out.frozen 2;rw[hq]at c1;have HQ:=hid hq;clear hq c0 h8 h0;cases ha:M.hp.asked
 · rw[ha]at c2
   have HA:=hid ha;clear ha;go_wp2;go_ret;refine⟨rfl,h6.out w1 _ n hc.out hd.out ?_ ?_ ?_⟩
   · exact(h5.out.put 1 (.int .i64 (n:Nat))).put 2 (.bool true)
   · exact grown_setCell (grown_setCell (World.grownBy.refl w1 (some L.enc)) 1 _) 2 _
   · show(if M.hp.asked=false\/n<M.hp.least then n else M.hp.least)=n
     rw[HA.out,if_pos (.inl rfl)]
 · rw[ha]at c2
   have HA:=hid ha;clear ha;by_cases h9:n<q
   · have hf:((n:Int)<(q:Int))=True:=by simp;omega
     go_wp2;go_ret;refine⟨rfl,h6.out w1 _ n hc.out hd.out ?_ ?_ ?_⟩
     · exact(h5.out.put 1 (.int .i64 (n:Nat))).put 2 (.bool true)
     · exact grown_setCell (grown_setCell (World.grownBy.refl w1 (some L.enc)) 1 _) 2 _
     · show(if M.hp.asked=false\/n<M.hp.least then n else M.hp.least)=n
       rw[HQ.out,if_pos (.inr h9)]
   · have hf:((n:Int)<(q:Int))=False:=by simp;omega
     go_wp2;go_ret;refine⟨rfl,h6.out w1 _ q hc.out hd.out ?_ ?_ ?_⟩
     · have hb:=h5.out.put 2 (.bool true)
       rw[HQ.out]at hb;exact hb
     · exact grown_setCell (World.grownBy.refl w1 (some L.enc)) 2 _
     · show(if M.hp.asked=false\/n<M.hp.least then n else M.hp.least)=q
       rw[HQ.out,HA.out,if_neg (by rintro(e|e);cases e;exact h9 e)]
end Go.Proofs.YtkpppjhbmnfmkaaGreatDoor
end

section
set_option maxHeartbeats 8000000
set_option maxRecDepth 100000
namespace Go.Proofs.YtkpppjhbmnfmkaaGreatDoor
open Lib (hid)
open Go.RowKit Go.Own Go.Own.Im Go.Own.Cx Go.Own.Fr
attribute [local go_sem] Oper.semAt_some
def set1 (M:Cv) (x:Nat×Nat):Cv:=
 if x.1=1 then{M with hp:=M.hp.sized (min x.2 4096)}else if x.1=3 then{M with limit:=x.2}else if x.1=4 then{M with others:=x.2}else M
theorem set1_keeps (M:Cv) (x:Nat×Nat):(set1 M x).strs=M.strs/\(set1 M x).out=M.out/\(set1 M x).evs=M.evs:=by
 unfold set1
 split
 · exact⟨rfl,rfl,rfl⟩
 split
 · exact⟨rfl,rfl,rfl⟩
 split<;>exact⟨rfl,rfl,rfl⟩
theorem CN.limitIs {w:World} {ow:Nat->Tg} {b:Nat} {M:Cv} {L:Lay} (h:CN w ow b M L) (v:Int):CN (w.setCell ⟨b,12,none⟩ (.int .i64 v)) ow b {M with limit:=v} L/\Fr w ow (w.setCell ⟨b,12,none⟩ (.int .i64 v)) ow:=h.cell 12 _ rfl h.p
theorem settings_any (w:World) (ow:Nat->Tg) (b:Nat) (M:Cv) (L:Lay) (i:Inf) (S:Option Addr) (d:Nat) (dv sz:Value) (h:CN w ow b M L) (ha:i.ack=false) (hS:SetR w (.slice S i.sets.length d) i.sets) (hR:∀ad,S=some ad->ow ad.block= .no) (hv:∀x∈i.sets,x.1<=65535/\x.2<=4294967295) (hl:i.sets.length<=100000) (hs:M.strs=[]) (ho:M.out.length<=1000000000) (hn:M.evs.length<=900000):
 Calls Tryz.prog 155 #[.pointer (some ⟨b,0,none⟩),.agg (infC i (.slice S i.sets.length d) dv),sz] w (CPost w ow b {i.sets.foldl set1 M with out:=M.out++frameB 4 1 0 [],evs:=M.evs++[{kind:=7}]} (.tuple #[])):=by
 have HX:=hid (Blk.new w 91 (infC i (.slice S i.sets.length d) dv));have hE:=hid ((Below.refl w.heap.size w).alloc (Nat.le_refl _) (.cells (infC i (.slice S i.sets.length d) dv) 91));have HC:=hid h;have HH:=hid (show _/\_/\_/\_/\_/\_ from⟨hS,hR,hv,hs,ho,hn⟩);have HA:=hid ha;obtain⟨N,hN⟩:∃N,i.sets.length=N:=⟨_,rfl⟩;have HN:=hid hN;rw[hN]at HX hE hl ⊢;clear h ha hS hR hv hs ho hn hN;go_enter Tryz.func155,Tryz.ntmps155;go_upto_region 1 with fail;generalize w.alloc (.cells (infC i (.slice S N d) dv) 91)=W0 at*
 have hY:=hid (HC.out.below hE.out);have c5:W0.cell? ⟨w.heap.size,5,none⟩=some (.bool i.ack):=HX.out.cell 5;rw[HA.out]at c5;have c16:W0.cell? ⟨w.heap.size,16,none⟩=some (.slice S N d):=HX.out.cell 16;go_wp2_with fail;clear c5 c16;go_loopw [60] (λiv wr=>Hid (∃(k:Nat) (Mk:Cv) (ow2:Nat->Tg),iv= .int .i64 (k:Nat)/\k<=N/\Mk=(i.sets.take k).foldl set1 M/\Mk.strs=[]/\Mk.out=M.out/\Mk.evs=M.evs/\CN wr ow2 b Mk L/\Fr w ow wr ow2)) (λiv _=>N-(intOf iv).toNat)
 case atStart=>exact hid ⟨0,M,ow,rfl,Nat.zero_le _,rfl,HH.out.2.2.2.1,rfl,rfl,hY.out,Fr.below hE.out ow⟩
 case round=>
  obtain⟨k,Mk,ow2,rfl,hk,he,hF,hh,hw,hA,hi⟩:=hrel.out;clear hrel;have hT:=hid hA;have hU:=hid hi;by_cases hG:k<N
  · have HS:=HH.out.1
    have h8:k<i.sets.length:=by have:=HN.out;omega
    obtain⟨ad,rfl,hH,d0,d1⟩:=HS.at_ h8;have hc:=HH.out.2.1 ad rfl;obtain⟨⟨x,y⟩,hC⟩:∃p,i.sets.getD k (0,0)=p:=⟨_,rfl⟩;have hu:(x,y)∈i.sets:=by rw[<-hC];simp[List.getD,h8]
    have hb:=HH.out.2.2.1 _ hu;rw[hC]at d0 d1;have d0:wr.cell? (ad.add (k*2))=some (.int .i64 (x:Nat)):=(World.cell?_of_block (a:=ad.add (k*2)) (by rw[add_block];exact hi.keep _ hH hc)).trans d0;have d1:wr.cell? ⟨(ad.add (k*2)).block,(ad.add (k*2)).off+1,none⟩=some (.int .i64 (y:Nat)):=(World.cell?_of_block (a:=⟨(ad.add (k*2)).block,(ad.add (k*2)).off+1,none⟩) (by show wr.heap[(ad.add (k*2)).block]?=_;rw[add_block];exact hi.keep _ hH hc)).trans d1;have hZ:=hid (show(i.sets.take (k+1)).foldl set1 M=set1 Mk (x,y)by
     rw[List.take_succ_eq_append_getElem h8,List.foldl_append,<-he];have e:i.sets[k]=(x,y):=by rw[<-hC];simp[List.getD,h8]
     rw[e]
     rfl)
    have HB:=hid (show _/\_/\_/\_ from⟨hb,hF,hh,hw⟩);have HK:=hid (show k<N from hG);have hP:((k:Int)<(N:Int))=True:=by simp;omega
    have k0:(0:Int)<=(k:Int):=by omega
    have EW:=hid (show wrap64 ((k:Int)+1)=((k+1:Nat):Int)by unfold wrap64;omega);clear hl HS h8 hH hc hC hu hb hA hi he hF hh hw hk hG;go_upto_region 14 with fail;have hD:=Blk.new wr 87 #[.int .i64 (x:Nat),.int .i64 (y:Nat)];have hI:=(Below.refl wr.heap.size wr).alloc (Nat.le_refl _) (.cells #[.int .i64 (x:Nat),.int .i64 (y:Nat)] 87);generalize wr.alloc (.cells #[.int .i64 (x:Nat),.int .i64 (y:Nat)] 87)=W4 at*
    have h9:=hid (hT.out.below hI);have hj:=hid (hU.out.trans (Fr.below hI ow2));have H0:=hid hD;have H1:=hid (hT.out.new wr.heap.size (Nat.le_refl _));have x0:W4.cell? ⟨wr.heap.size,0,none⟩=some (.int .i64 (x:Nat)):=hD.cell 0;have x1:W4.cell? ⟨wr.heap.size,1,none⟩=some (.int .i64 (y:Nat)):=hD.cell 1;have fin:∀(wz:World) (ow3:Nat->Tg),CN wz ow3 b (set1 Mk (x,y)) L->Fr w ow wz ow3->
     Hid (∃(k':Nat) (Mk:Cv) (ow2:Nat->Tg),Value.int .i64 ((k+1:Nat):Int)= .int .i64 (k':Nat)/\k'<=N/\Mk=(i.sets.take k').foldl set1 M/\Mk.strs=[]/\Mk.out=M.out/\Mk.evs=M.evs/\CN wz ow2 b Mk L/\Fr w ow wz ow2):=λwz ow3 h1 h2=>
     hid ⟨k+1,_,ow3,rfl,HK.out,hZ.out.symm,(set1_keeps Mk (x,y)).1.trans HB.out.2.1,(set1_keeps Mk (x,y)).2.1.trans HB.out.2.2.1,(set1_keeps Mk (x,y)).2.2.trans HB.out.2.2.2,h1,h2⟩
    have h0:=hid fin;clear hD hI d0 d1 fin;by_cases h1:x=1
    · subst h1
      have h7:set1 Mk (1,y)={Mk with hp:=Mk.hp.sized (min y 4096)}:=rfl;rw[h7]at h0;obtain⟨m,hm⟩:∃m,min y 4096=m:=⟨_,rfl⟩;have Hb:min (y:Int) 4096=(m:Int):=by omega
      have hX:((y:Int)<=4096)=(y<=4096):=by simp;omega
      rw[hm]at h0;have hJ:m<=4096:=by omega
      have H2:=hid (enc_resize W4 ow2 b Mk L m h9.out hJ);have H3:=hid (enc_resize W4.drew ow2 b Mk L m h9.out.drew hJ);have y21:W4.cell? ⟨b,21,none⟩=some (.pointer (some ⟨L.enc,0,none⟩)):=h9.out.blk.cell 21;have H4:=hid (show W4.cell? ⟨b,21,none⟩=some (.pointer (some ⟨L.enc,0,none⟩))/\W4.cell? ⟨wr.heap.size,1,none⟩=some (.int .i64 (y:Nat))from⟨y21,x1⟩);have hQ:=hid (show W4.drew.cell? ⟨b,21,none⟩=some (.pointer (some ⟨L.enc,0,none⟩))/\W4.drew.cell? ⟨wr.heap.size,1,none⟩=some (.int .i64 (y:Nat))from⟨y21,x1⟩);clear h7 hm hJ y21;go_upto_region 16 with fail;go_region_held3 (λW'=>W'.cell? ⟨b,21,none⟩=some (.pointer (some ⟨L.enc,0,none⟩))/\W'.cell? ⟨wr.heap.size,1,none⟩=some (.int .i64 (y:Nat))) (first|with_reducible exact H4.out|with_reducible exact hQ.out|with_reducible exact H5.out) (first
       |(go_at_call 198
         first|with_reducible refine Calls.mono H2.out ?_|with_reducible refine Calls.mono H3.out ?_
         rintro e w5 ⟨rfl,hK,hL⟩;have ht:=hid hK;have hf:=hid hL;have H5:=hid (show w5.cell? ⟨b,21,none⟩=some (.pointer (some ⟨L.enc,0,none⟩))/\w5.cell? ⟨wr.heap.size,1,none⟩=some (.int .i64 (y:Nat))from⟨hK.blk.cell 21,(hL.blk H0.out H1.out).cell 1⟩);clear hK hL)
       |fail)
      all_goals
       go_wp2;rw[EW.out];exact⟨h0.out _ _ ht.out (by first|exact hj.out.trans hf.out|exact hj.out.trans ((Fr.drewN W4 ow2 1).trans hf.out)),by simp[intOf];have:=HK.out;omega⟩
    have n1:((x:Int)=1)=False:=by simp;omega
    have n1':((x:Int)==1)=false:=by simp;omega
    by_cases h3:x=3
    · subst h3
      have h7:set1 Mk (3,y)={Mk with limit:=y}:=rfl;rw[h7]at h0;have y12:W4.cell? ⟨b,12,none⟩=some (.int .i64 Mk.limit):=h9.out.blk.cell 12;have f12:=h9.out.blk.frozen 12;have h5:=h9.out.limitIs (y:Int);have ht:=hid h5.1;have hf:=hid (hj.out.trans h5.2);clear h7 h5;go_wp2;rw[EW.out];exact⟨h0.out _ _ ht.out hf.out,by simp[intOf];have:=HK.out;omega⟩
    have n3:((x:Int)=3)=False:=by simp;omega
    have n3':((x:Int)==3)=false:=by simp;omega
    by_cases h4:x=4
    · subst h4
      have h7:set1 Mk (4,y)={Mk with others:=y}:=rfl;rw[h7]at h0;have y11:W4.cell? ⟨b,11,none⟩=some (.int .i64 Mk.others):=h9.out.blk.cell 11;have f11:=h9.out.blk.frozen 11;clear h7;go_upto_region 20 with fail;go_quiet (fail);have ht:=hid (h9.out.drewN nq);have hf:=hid (hj.out.trans (Fr.drewN W4 ow2 nq));have x1:(W4.drewN nq).cell? ⟨wr.heap.size,1,none⟩=some (.int .i64 (y:Nat)):=x1;have f11:(W4.drewN nq).frozen? ⟨b,11,none⟩=false:=f11;have y11:(W4.drewN nq).cell? ⟨b,11,none⟩=some (.int .i64 Mk.others):=y11;generalize W4.drewN nq=W5 at*
      have h6:=ht.out.othersAre (y:Int);have hM:=hid h6.1;have H7:=hid (hf.out.trans h6.2);clear h6;go_upto_region 22 with fail;clear x1 y11 f11;generalize W5.setCell ⟨b,11,none⟩ (.int .i64 (y:Nat))=W6 at*
      obtain⟨clock,hd⟩:=hM.out.noMap HB.out.2.1;have c15:W6.cell? ⟨b,15,none⟩=some (.map (some L.mb)):=hM.out.blk.cell 15;have Hc:=run_range_map (P:=Tryz.prog) W6 74 3 93 L.mb #[] clock Tryz.underlying74 hd;have He:=λty=>next_none W6 ty L.mb clock hd;have hO:=(Below.refl W6.heap.size W6).alloc (Nat.le_refl _) (.mapIter (some L.mb) clock #[] clock);have H8:=hid (hM.out.below hO);have H9:=hid (H7.out.trans (Fr.below hO ow2));clear hO hd;go_upto_region 23 with fail;generalize W6.alloc (.mapIter (some L.mb) clock #[] clock)=W7 at*
      go_loopw [] (λwr=>Hid (wr=W7)) (λ_=>0)
      case atStart=>rfl
      case round=>
       obtain rfl:=hrel.out;go_wp2;rw[EW.out];exact⟨h0.out _ _ H8.out H9.out,by simp[intOf];have:=HK.out;omega⟩
    have n4:((x:Int)=4)=False:=by simp;omega
    have n4':((x:Int)==4)=false:=by simp;omega
    have h7:set1 Mk (x,y)=Mk:=by unfold set1;rw[if_neg h1,if_neg h3,if_neg h4]
    rw[h7]at h0;clear h7 h1 h3 h4;go_wp2;rw[EW.out];exact⟨h0.out _ _ h9.out hj.out,by simp[intOf];have:=HK.out;omega⟩
  · obtain rfl:k=N:=by omega
    have hP:((k:Int)<(k:Int))=False:=by simp
    have he:Mk=i.sets.foldl set1 M:=by rw[he,<-HN.out,List.take_length]
    have HP:=put_any wr ow2 b _ L _ _ hA rfl (bld_ack wr) (by rw[hh];exact HH.out.2.2.2.2.1);rw[infC_ack,flg_ack,pay_ack]at HP;have HP:=hid HP;have HM:=hid (show _/\_/\_ from⟨he,hh,hw⟩);clear hA hi he hh hw hF hk hG;go_wp2_with (first
     |(go_at_call 39
       refine HP.out.mono ?_;rintro e w1 ⟨ow1,L1,rfl,hV,hW⟩;have Ha:=hid (hU.out.trans hW);have HT:=tell_any w1 ow1 b _ L1 {kind:=7} hV (evOk_plain _ _ _ _ _ _ _) (by show Mk.evs.length<=_;rw[HM.out.2.2];exact HH.out.2.2.2.2.2);rw[evC_plain]at HT;have HT:=hid HT;clear hV hW)
     |(go_at_call 109
       refine HT.out.mono ?_;intro e w2 hp;obtain rfl:=hp.ret;have HQ:=hid hp;clear hp)
     |fail)
    go_end0;have hq:=HQ.out.trans Ha.out;have e1:=HM.out.1;subst e1;have e2:=HM.out.2.1;have e3:=HM.out.2.2;rw[e2,e3]at hq;exact hq
end Go.Proofs.YtkpppjhbmnfmkaaGreatDoor
end
