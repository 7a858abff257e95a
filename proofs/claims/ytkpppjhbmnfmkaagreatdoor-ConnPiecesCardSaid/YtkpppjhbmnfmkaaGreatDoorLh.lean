import Derived.Test.YtkpppjhbmnfmkaaGreatDoorJbc
import Derived.Deep.RegionHeld3
set_option linter.unusedSimpArgs false
set_option linter.unusedVariables false
set_option maxHeartbeats 8000000
set_option maxRecDepth 100000
namespace Go.Proofs.YtkpppjhbmnfmkaaGreatDoor
open Lib (hid)
open Go.RowKit Go.Own Go.Own.Im Go.Own.Cx Go.Own.Fr Go.Maps
attribute [local go_sem] Oper.semAt_some
theorem settings_anyS (w:World) (ow:Nat->Tg) (b:Nat) (M:Cv) (L:Lay) (i:Inf) (S:Option Addr) (d:Nat) (dv sz:Value) (h:CN w ow b M L) (ha:i.ack=false) (hS:SetR w (.slice S i.sets.length d) i.sets) (Ht:∀ad,S=some ad->ow ad.block= .no) (hv:∀x∈i.sets,x.1<=65535/\x.2<=4294967295) (hl:i.sets.length<=100000) (hs:SetOk M) (h4:∀x∈i.sets,x.1=4->x.2<=2147483647) (hE:Env w ow) (ho:M.out.length<=1000000000) (hn:M.evs.length<=900000):
 Calls Tryz.prog 155 #[.pointer (some ⟨b,0,none⟩),.agg (infC i (.slice S i.sets.length d) dv),sz] w (SetPost w ow b (setsM i.sets M)):=by
 have HX:=hid (Blk.new w 91 (infC i (.slice S i.sets.length d) dv));have H3:=hid ((Below.refl w.heap.size w).alloc (Nat.le_refl _) (.cells (infC i (.slice S i.sets.length d) dv) 91));have HC:=hid h;have HH:=hid (show _/\_/\_/\_/\_/\_ from⟨hS,Ht,hv,hs,ho,hn⟩);have HA:=hid ha;have gd:=hid hE;have H4:=hid h4;obtain⟨N,hN⟩:∃N,i.sets.length=N:=⟨_,rfl⟩;have HN:=hid hN;rw[hN]at HX H3 hl ⊢;clear hE h4 h ha hS Ht hv hs ho hn hN;go_enter Tryz.func155,Tryz.ntmps155;go_upto_region 1 with fail;generalize w.alloc (.cells (infC i (.slice S N d) dv) 91)=W0 at*
 have ge:=hid (HC.out.below H3.out);have c5:W0.cell? ⟨w.heap.size,5,none⟩=some (.bool i.ack):=HX.out.cell 5;rw[HA.out]at c5;have c16:W0.cell? ⟨w.heap.size,16,none⟩=some (.slice S N d):=HX.out.cell 16;go_wp2_with fail;clear c5 c16;go_loopw [60] (λiv wr=>Hid (∃(k:Nat) (Mk:Cv) (ow2:Nat->Tg),iv= .int .i64 (k:Nat)/\k<=N/\setsM (i.sets.drop k) Mk=setsM i.sets M/\SetOk Mk/\Mk.out=M.out/\Mk.evs=M.evs/\CN wr ow2 b Mk L/\Fr w ow wr ow2)) (λiv _=>N-(intOf iv).toNat)
 case atStart=>exact hid ⟨0,M,ow,rfl,Nat.zero_le _,rfl,HH.out.2.2.2.1,rfl,rfl,ge.out,Fr.below H3.out ow⟩
 case round=>
  obtain⟨k,Mk,ow2,rfl,hk,hK,H5,hO,hV,hW,hP⟩:=hrel.out;clear hrel;have Hu:=hid hW;have Hv:=hid hP;by_cases hA:k<N
  · have HS:=HH.out.1
    have hi:k<i.sets.length:=by have:=HN.out;omega
    obtain⟨ad,rfl,H7,d0,d1⟩:=HS.at_ hi;have hD:=HH.out.2.1 ad rfl;obtain⟨⟨x,y⟩,hX⟩:∃p,i.sets.getD k (0,0)=p:=⟨_,rfl⟩;have hF:(x,y)∈i.sets:=by rw[<-hX];simp[List.getD,hi]
    have hb:=HH.out.2.2.1 _ hF;rw[hX]at d0 d1;have d0:wr.cell? (ad.add (k*2))=some (.int .i64 (x:Nat)):=(World.cell?_of_block (a:=ad.add (k*2)) (by rw[add_block];exact hP.keep _ H7 hD)).trans d0;have d1:wr.cell? ⟨(ad.add (k*2)).block,(ad.add (k*2)).off+1,none⟩=some (.int .i64 (y:Nat)):=(World.cell?_of_block (a:=⟨(ad.add (k*2)).block,(ad.add (k*2)).off+1,none⟩) (by show wr.heap[(ad.add (k*2)).block]?=_;rw[add_block];exact hP.keep _ H7 hD)).trans d1;have Hx:=hid (show setsM ((x,y)::i.sets.drop (k+1)) Mk=setsM i.sets M by
     have e:i.sets[k]=(x,y):=by rw[<-hX];simp[List.getD,hi]
     rw[<-e,<-List.drop_eq_getElem_cons hi];exact hK)
    have Hy:=hid (show x=4->y<=2147483647 from H4.out (x,y) hF);have HB:=hid (show _/\_/\_/\_ from⟨hb,H5,hO,hV⟩);have HK:=hid (show k<N from hA);have Hm:((k:Int)<(N:Int))=True:=by simp;omega
    have k0:(0:Int)<=(k:Int):=by omega
    have EW:=hid (show wrap64 ((k:Int)+1)=((k+1:Nat):Int)by unfold wrap64;omega);clear hl HS hi H7 hD hX hF hb hW hP hK H5 hO hV hk hA;go_upto_region 14 with fail;have hY:=Blk.new wr 87 #[.int .i64 (x:Nat),.int .i64 (y:Nat)];have H8:=(Below.refl wr.heap.size wr).alloc (Nat.le_refl _) (.cells #[.int .i64 (x:Nat),.int .i64 (y:Nat)] 87);generalize wr.alloc (.cells #[.int .i64 (x:Nat),.int .i64 (y:Nat)] 87)=W4 at*
    have hj:=hid (Hu.out.below H8);have hQ:=hid (Hv.out.trans (Fr.below H8 ow2));have gf:=hid hY;have gg:=hid (Hu.out.new wr.heap.size (Nat.le_refl _));have x0:W4.cell? ⟨wr.heap.size,0,none⟩=some (.int .i64 (x:Nat)):=hY.cell 0;have x1:W4.cell? ⟨wr.heap.size,1,none⟩=some (.int .i64 (y:Nat)):=hY.cell 1;have fin:∀(wz:World) (ow3:Nat->Tg),badS Mk (x,y)=false->CN wz ow3 b (setS Mk (x,y)) L->Fr w ow wz ow3->
     Hid (∃(k':Nat) (Mk:Cv) (ow2:Nat->Tg),Value.int .i64 ((k+1:Nat):Int)= .int .i64 (k':Nat)/\k'<=N/\setsM (i.sets.drop k') Mk=setsM i.sets M/\SetOk Mk/\Mk.out=M.out/\Mk.evs=M.evs/\CN wz ow2 b Mk L/\Fr w ow wz ow2):=λwz ow3 HD h1 h2=>
     hid ⟨k+1,_,ow3,rfl,HK.out,(by have h9:=Hx.out;rw[setsM,if_neg (by rw[HD];decide)]at h9;exact h9),setS_ok HB.out.2.1 (x,y) HD Hy.out,(setS_keeps Mk (x,y)).1.trans HB.out.2.2.1,(setS_keeps Mk (x,y)).2.trans HB.out.2.2.2,h1,h2⟩
    have h0:=hid fin;clear hY H8 d0 d1 fin;by_cases h1:x=1
    · subst h1
      have he:setS Mk (1,y)={Mk with hp:=Mk.hp.sized (min y 4096)}:=rfl;rw[he]at h0;obtain⟨m,hm⟩:∃m,min y 4096=m:=⟨_,rfl⟩;have gz:min (y:Int) 4096=(m:Int):=by omega
      have gc:((y:Int)<=4096)=(y<=4096):=by simp;omega
      rw[hm]at h0;have H9:m<=4096:=by omega
      have gh:=hid (enc_resize W4 ow2 b Mk L m hj.out H9);have gi:=hid (enc_resize W4.drew ow2 b Mk L m hj.out.drew H9);have y21:W4.cell? ⟨b,21,none⟩=some (.pointer (some ⟨L.enc,0,none⟩)):=hj.out.blk.cell 21;have gj:=hid (show W4.cell? ⟨b,21,none⟩=some (.pointer (some ⟨L.enc,0,none⟩))/\W4.cell? ⟨wr.heap.size,1,none⟩=some (.int .i64 (y:Nat))from⟨y21,x1⟩);have Hn:=hid (show W4.drew.cell? ⟨b,21,none⟩=some (.pointer (some ⟨L.enc,0,none⟩))/\W4.drew.cell? ⟨wr.heap.size,1,none⟩=some (.int .i64 (y:Nat))from⟨y21,x1⟩);clear he hm H9 y21;go_upto_region 16 with fail;go_region_held3 (λW'=>W'.cell? ⟨b,21,none⟩=some (.pointer (some ⟨L.enc,0,none⟩))/\W'.cell? ⟨wr.heap.size,1,none⟩=some (.int .i64 (y:Nat))) (first|with_reducible exact gj.out|with_reducible exact Hn.out|with_reducible exact gk.out) (first
       |(go_at_call 198
         first|with_reducible refine Calls.mono gh.out ?_|with_reducible refine Calls.mono gi.out ?_
         rintro e w5 ⟨rfl,Ha,Hb⟩;have hR:=hid Ha;have hL:=hid Hb;have gk:=hid (show w5.cell? ⟨b,21,none⟩=some (.pointer (some ⟨L.enc,0,none⟩))/\w5.cell? ⟨wr.heap.size,1,none⟩=some (.int .i64 (y:Nat))from⟨Ha.blk.cell 21,(Hb.blk gf.out gg.out).cell 1⟩);clear Ha Hb)
       |fail)
      all_goals
       go_wp2;rw[EW.out];exact⟨h0.out _ _ (by first|rfl|exact hT.out) hR.out (by first|exact hQ.out.trans hL.out|exact hQ.out.trans ((Fr.drewN W4 ow2 1).trans hL.out)),by simp[intOf];have:=HK.out;omega⟩
    have n1:((x:Int)=1)=False:=by simp;omega
    have n1':((x:Int)==1)=false:=by simp;omega
    by_cases h3:x=3
    · subst h3
      have he:setS Mk (3,y)={Mk with limit:=y}:=rfl;rw[he]at h0;have y12:W4.cell? ⟨b,12,none⟩=some (.int .i64 Mk.limit):=hj.out.blk.cell 12;have f12:=hj.out.blk.frozen 12;have h5:=hj.out.limitIs (y:Int);have hR:=hid h5.1;have hL:=hid (hQ.out.trans h5.2);clear he h5;go_wp2;rw[EW.out];exact⟨h0.out _ _ (by first|rfl|exact hT.out) hR.out hL.out,by simp[intOf];have:=HK.out;omega⟩
    have n3:((x:Int)=3)=False:=by simp;omega
    have n3':((x:Int)==3)=false:=by simp;omega
    by_cases h4:x=4
    · subst h4
      have he:setS Mk (4,y)={Mk with others:=y,strs:=Mk.strs.map λs=>{s with outw:=s.outw+((y:Int)-Mk.others)}}:=rfl;rw[he]at h0;have y11:W4.cell? ⟨b,11,none⟩=some (.int .i64 Mk.others):=hj.out.blk.cell 11;have f11:=hj.out.blk.frozen 11;have ht:=HB.out.2.1.oth;have gl:=Hy.out rfl;have gm:wrap64 ((y:Int)-Mk.others)=(y:Int)-Mk.others:=by unfold wrap64;omega
      have gn:IntKind.i64.wrap ((y:Int)-Mk.others)=(y:Int)-Mk.others:=by rw[IntKind.wrap_i64];omega
      have HE:=hid (show -2147483647<=(y:Int)-Mk.others/\(y:Int)-Mk.others<=2147483647 by omega);clear ht gl;clear he;go_upto_region 20 with fail;go_quiet (fail);have hR:=hid (hj.out.drewN nq);have hL:=hid (hQ.out.trans (Fr.drewN W4 ow2 nq));have x1:(W4.drewN nq).cell? ⟨wr.heap.size,1,none⟩=some (.int .i64 (y:Nat)):=x1;have f11:(W4.drewN nq).frozen? ⟨b,11,none⟩=false:=f11;have y11:(W4.drewN nq).cell? ⟨b,11,none⟩=some (.int .i64 Mk.others):=y11;generalize W4.drewN nq=W5 at*
      have h6:=hR.out.othersAre (y:Int);have hZ:=hid h6.1;have Hc:=hid (hL.out.trans h6.2);clear h6;go_upto_region 22 with fail;clear x1 y11 f11;generalize W5.setCell ⟨b,11,none⟩ (.int .i64 (y:Nat))=W6 at*
      generalize hd:(y:Int)-Mk.others=d at*
      have HF:=hid hd;obtain⟨D,hG,go,hsz,hh,hM⟩:=hZ.out.p.map;rw[List.length_map]at hG;have Ho:=hid hG;have hH:=hid (And.intro hh hM);have c15:W6.cell? ⟨b,15,none⟩=some (.map (some L.mb)):=hZ.out.blk.cell 15;have HG:ow2 W6.heap.size= .no:=hZ.out.new _ (Nat.le_refl _);have HI:=hid HG;clear hG go hsz hh hM gm gn HG hd;go_wp2_with (first
       |(with_reducible refine wpList_range_own _ rfl (.tmp 100) 74 rfl 3 93 (Maps.int_keyed Tryz.underlying3) Tryz.underlying74 Rh L.mb _ D rfl Ho.out ?_
         intro w7 HO HU HV;have gp:=hid HO;have hC:=hid (And.intro HU HV);clear HO HU HV)
       |fail)
      have hI:∀s∈Mk.strs,Maps.has D (il s.id)=true:=λs hs=>by
       rw[hH.out.1];exact List.any_eq_true.2 ⟨s.id,List.mem_map.2 ⟨s,hs,rfl⟩,by simp⟩
      have gq:=hid (show CN w7 ow2 b {Mk with others:=y,strs:=shO (Maps.has D) d Mk.strs} L from by
       rw[shO_all _ d Mk.strs hI];exact hZ.out.keep hC.out.1.size λg _ hA=>hC.out.1.block g hA (by simp))
      have gs:=hid (show Fr W6 ow2 w7 ow2 from⟨hC.out.1.os,hC.out.1.tape,hC.out.1.output,hC.out.1.size,λg hA _=>hC.out.1.block g hA (by simp),λ_ _ hn=>hn⟩);have Hp:=hid hI;clear hI c15;go_loopw [13] (λ_ wr=>Hid (∃(left:Lit->Bool) (cnt:Nat),wr.ranges Tryz.prog 3 Rh L.mb W6.heap.size Mk.strs.length D left cnt/\CN wr ow2 b {Mk with others:=y,strs:=shO left d Mk.strs} L/\Fr W6 ow2 wr ow2/\(∀k:Int,left (il k)=true->Maps.has D (il k)=true)/\∀s∈Mk.strs,left (il s.id)=false->s.outw+d<=2147483647)) (λ_ wr=>wr.rangeLeft L.mb W6.heap.size)
      case atStart=>exact hid ⟨_,_,gp.out,gq.out,gs.out,λ_ h=>h,λs hs h9=>by rw[Hp.out s hs]at h9;cases h9⟩
      case round=>
       obtain⟨left,cnt,hr,hc,hf,hl,HW⟩:=hrel.out;have HR:=hid hr;have HY:=hid hc;have HZ:=hid hf;have HL:=hid hl;have g0:=hid HW;clear hrel hr hc hf hl HW;go_wp2_with (first
        |(with_reducible refine wpList_next_ranges _ rfl (.tmp 101) rfl 3 (Maps.int_keyed Tryz.underlying3) Rh (Value.int .i64) (λv:Value=>v) (λkey kl h=>by obtain⟨x,rfl,_⟩:=Maps.keyOf_int_inv Tryz.underlying3 h;exact⟨x,rfl⟩) (λv y h=>⟨v,rfl⟩) L.mb W6.heap.size _ D left cnt rfl HR.out ?_ ?_)
        |fail)
       · intro _ hu
         have g1:=hid hu;clear hu;go_wp2;rw[EW.out];have hT:=hid (show badS Mk (4,y)=false from by
          unfold badS;rw[Bool.and_eq_false_iff];refine .inr (List.any_eq_false.2 λs hs=>?_);have h9:=g0.out s hs (g1.out _);have h8:=HF.out;simp only[decide_eq_true_eq];omega)
         have h1:=HY.out;rw[shO_none left g1.out d Mk.strs]at h1;exact⟨h0.out _ _ hT.out h1 (Hc.out.trans HZ.out),by simp[intOf];have:=HK.out;omega⟩
       · intro x v kl y1 y2 w8 cnt' hk hU hv hM He hJ H0 g2 g3
         obtain⟨x',ex,rfl,g4⟩:=Maps.keyOf_int_inv Tryz.underlying3 hk;cases ex;obtain⟨i0,Hg,Hh⟩:=List.any_eq_true.1 ((hH.out.1 x).symm.trans (HL.out x hU));obtain⟨s,hs,rfl⟩:=List.mem_map.1 Hg;have hx:(s.id:Int)=x:=by simpa using Hh
         subst hx;have gt:v=sptr L s.id:=by
          have h1:=hM .nil;have h2:=hH.out.2 s.id (List.mem_map.2 ⟨s,hs,rfl⟩) .nil;simp only[Rh,Option.some.injEq,Prod.mk.injEq]at hv;rw[<-hv.1]at h1;have h3:=h1.symm.trans h2;injection h3
         subst gt;have H1:=hid (HY.out.stepped H0 HI.out);have Hi:=hid (Fr.stepped HZ.out H0 (Nat.le_refl _));have hS:=H1.out.p.strs s (shO_left left d hs hU);have d4:w8.cell? ⟨(L.s s.id).sb,4,none⟩=some (.pointer (some ⟨(L.s s.id).ob,0,none⟩)):=hS.blk.cell 4;have hb:=HB.out.2.1.outw s hs;have ht:=HB.out.2.1.oth;have g5:=HF.out;by_cases g6:2147483647<s.outw+d
         · have Hj:=hid (shift_no w8 (L.s s.id).ob s.outw d hS.outw (gd.out.fr (Hc.out.trans Hi.out)).hp.win ⟨by omega,hb.2⟩ HE.out g6)
           have Hq:=hid (show setsM i.sets M= .inr {Mk with others:=y}from by
            rw[<-Hx.out,setsM,if_pos];unfold badS;rw[Bool.and_eq_true];exact⟨rfl,List.any_eq_true.2 ⟨s,hs,decide_eq_true (by show 2147483647<s.outw+((y:Int)-Mk.others);omega)⟩⟩)
           clear He H0 g2 hJ hM hv hU hS hb hk g4 Hh Hg ht g5;unfold sptr at g3 ⊢;go_wp2_with (first
            |(go_at_call 197
              with_reducible refine Calls.mono Hj.out ?_
              rintro e w9 ⟨⟨xe,rfl⟩,gA⟩;subst w9;simp only[ev])
            |fail)
           refine(give_any 3 0 _).mono ?_;rintro e w4 ⟨rfl,hw⟩;subst w4;go_wp2;refine⟨rfl,?_⟩;rw[Hq.out];exact⟨_,ow2,L,⟨_,rfl⟩,rfl,H1.out,Hc.out.trans Hi.out⟩
         · have Hj:=hid (shift_yes w8 (L.s s.id).ob s.outw d hS.outw ⟨by omega,hb.2⟩ HE.out ⟨by omega,by omega⟩)
           have H2:=H1.out.souts (shO_left left d hs hU) (s.outw+d);rw[show updS ({Mk with others:=y,strs:=shO left d Mk.strs}:Cv).strs {s with outw:=s.outw+d}=_ from shO_step HB.out.2.1.nd left d hs]at H2;have gu:=hid H2.1;have gv:=hid (Hi.out.trans H2.2);have Hl:ow2 (L.s s.id).ob= .st s.id 2:=hS.tu;have g7:=hid (He.kept (grownBy_setCell' w8 (L.s s.id).ob (.int .i64 (s.outw+d))) (by intro e;injection e with e;have h1:=H1.out.p.tm;rw[e,Hl]at h1;cases h1) (by intro e;injection e with e;have h1:=HI.out;rw[e,Hl]at h1;cases h1));have gw:=hid (show cnt'<wr.rangeLeft L.mb W6.heap.size by rw[HR.out.left_eq];exact hJ);have gx:=hid (λ(k:Int) (g8:(left (il k)&& !(il k).sameKey (.int .i64 (s.id:Int)))=true)=>HL.out k (by rw[Bool.and_eq_true]at g8;exact g8.1));have Hs:=hid (show∀z∈Mk.strs,(left (il z.id)&& !(il (z.id:Int)).sameKey (.int .i64 (s.id:Int)))=false->z.outw+d<=2147483647 fromλz hz h9=>by
            by_cases g9:left (il z.id)=false
            · exact g0.out z hz g9
            · have h7:left (il z.id)=true:=by simpa using g9
              rw[h7,show(il (z.id:Int)).sameKey (.int .i64 (s.id:Int))=_ from il_same z.id s.id,Bool.true_and,Bool.not_eq_false',decide_eq_true_eq]at h9;have h6:=id_one HB.out.2.1.nd hz hs h9;subst h6;omega)
           clear H2 Hl He H0 g2 hJ hM hv hU hS hb hk g4 Hh Hg ht g5 g6;unfold sptr at g3 ⊢;go_wp2_with (first
            |(go_at_call 197
              with_reducible refine Calls.mono Hj.out ?_
              rintro e w9 ⟨rfl,rfl⟩)
            |fail)
           exact⟨hid ⟨_,cnt',g7.out,gu.out,gv.out,gx.out,Hs.out⟩,by rw[g7.out.left_eq];exact gw.out⟩
    have n4:((x:Int)=4)=False:=by simp;omega
    have n4':((x:Int)==4)=false:=by simp;omega
    have he:setS Mk (x,y)=Mk:=by unfold setS;rw[if_neg h1,if_neg h3,if_neg h4]
    have hT:=hid (show badS Mk (x,y)=false by unfold badS;rw[decide_eq_false h4];rfl);rw[he]at h0;clear he h1 h3 h4;go_wp2;rw[EW.out];exact⟨h0.out _ _ (by first|rfl|exact hT.out) hj.out hQ.out,by simp[intOf];have:=HK.out;omega⟩
  · obtain rfl:k=N:=by omega
    have Hm:((k:Int)<(k:Int))=False:=by simp
    have hK:setsM i.sets M= .inl Mk:=by rw[<-hK,<-HN.out,List.drop_length];rfl
    have HP:=put_any wr ow2 b _ L _ _ hW rfl (bld_ack wr) (by rw[hO];exact HH.out.2.2.2.2.1);rw[infC_ack,flg_ack,pay_ack]at HP;have HP:=hid HP;have HM:=hid (show _/\_/\_ from⟨hK,hO,hV⟩);clear hW hP hK hO hV H5 hk hA;go_wp2_with (first
     |(go_at_call 39
       refine HP.out.mono ?_;rintro e w1 ⟨ow1,L1,rfl,ga,gb⟩;have gy:=hid (Hv.out.trans gb);have HT:=tell_any w1 ow1 b _ L1 {kind:=7} ga (evOk_plain _ _ _ _ _ _ _) (by show Mk.evs.length<=_;rw[HM.out.2.2];exact HH.out.2.2.2.2.2);rw[evC_plain]at HT;have HT:=hid HT;clear ga gb)
     |(go_at_call 109
       refine HT.out.mono ?_;intro e w2 hp;obtain rfl:=hp.ret;have HQ:=hid hp;clear hp)
     |fail)
    go_end0;have hq:=HQ.out.trans gy.out;rw[HM.out.1];exact hq
end Go.Proofs.YtkpppjhbmnfmkaaGreatDoor
