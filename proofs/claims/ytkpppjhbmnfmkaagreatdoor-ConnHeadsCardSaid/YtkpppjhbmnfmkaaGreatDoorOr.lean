import Derived.Test.YtkpppjhbmnfmkaaGreatDoorJar
import Derived.Test.YtkpppjhbmnfmkaaGreatDoorJae
import Derived.Deep.RegionHeld3
import Derived.Deep.CutBlock
import Derived.Test.YtkpppjhbmnfmkaaGreatDoorJal
set_option linter.unusedSimpArgs false
set_option linter.unusedVariables false
set_option maxHeartbeats 16000000
set_option maxRecDepth 100000
namespace Go.Proofs.YtkpppjhbmnfmkaaGreatDoor
open Lib (hid)
open Go.RowKit Go.Own Go.Own.Im Go.Own.Cx Go.Own.Fr Go.Own.Hd
attribute [local go_sem] Oper.semAt_some
theorem res26 (tmps:Array Value) (w:World) (b:Nat) (a0 a1 a2 a3 a4 ev:Value) (ht:tmps[2]?=some (.pointer (some ⟨b,0,none⟩))) (h3:tmps[3]?=some ev) (hb:Blk w b 57 #[a0,a1,a2,a3,a4]):
 (results Tryz.f26 tmps).run Tryz.prog w= .ok (.tuple #[.agg #[a0,a1,a2,a3,a4],ev]) w:=by
 have c0:w.cell? ⟨b,0,none⟩=some a0:=hb.cell 0;have c1:w.cell? ⟨b,1,none⟩=some a1:=hb.cell 1;have c2:w.cell? ⟨b,2,none⟩=some a2:=hb.cell 2;have c3:w.cell? ⟨b,3,none⟩=some a3:=hb.cell 3;have c4:w.cell? ⟨b,4,none⟩=some a4:=hb.cell 4;simp[results,Tryz.results26,go_sem,ht,h3,c0,c1,c2,c3,c4]
theorem put5 {W:World} {b:Nat} {t:TypeId} {a0 a1 a2 a3 a4:Value} (h:Blk W b t #[a0,a1,a2,a3,a4]) (v0 v1 v2 v3 v4:Value):
 Blk (((((W.setCell ⟨b,0,none⟩ v0).setCell ⟨b,1,none⟩ v1).setCell ⟨b,2,none⟩ v2).setCell ⟨b,3,none⟩ v3).setCell ⟨b,4,none⟩ v4) b t #[v0,v1,v2,v3,v4]:=by
 have h1:=((((h.put 0 v0).put 1 v1).put 2 v2).put 3 v3).put 4 v4;simp only[List.setIfInBounds_toArray,List.set_cons_zero,List.set_cons_succ]at h1;exact h1
theorem Blk.bel {w w2:World} {g:Nat} {t:TypeId} {cs:Array Value} (h:Blk w g t cs) (hb:Below w.heap.size w w2):Blk w2 g t cs:=h.below hb h.lt
theorem bel5 {B:Nat} {w W:World} {b:Nat} (h:Below B w W) (hb:B<=b) (v0 v1 v2 v3 v4:Value):
 Below B w (((((W.setCell ⟨b,0,none⟩ v0).setCell ⟨b,1,none⟩ v1).setCell ⟨b,2,none⟩ v2).setCell ⟨b,3,none⟩ v3).setCell ⟨b,4,none⟩ v4):=
 ((((h.setCell (p:=⟨b,0,none⟩) hb v0).setCell (p:=⟨b,1,none⟩) hb v1).setCell (p:=⟨b,2,none⟩) hb v2).setCell (p:=⟨b,3,none⟩) hb v3).setCell (p:=⟨b,4,none⟩) hb v4
def okH (p:List HdrV) (h:HdrV):Bool:=known4 (tx h.name)&&decide (cntN p (tx h.name)<=1)&&valueB (tx h.value)
theorem front_bad {l p:List HdrV} (hp:l.takeWhile colonB=p) {i:Nat} {x:HdrV} (hx:p[i]?=some x) (h:okH p x=false):docB l=false:=by
 unfold docB;rw[hp];have:frontB p=false:=by
  unfold frontB;rw[List.all_eq_false];exact⟨x,List.mem_of_getElem? hx,by unfold okH at h;rw[h];exact Bool.false_ne_true⟩
 rw[this]
 rfl
def ROpP (w:World) (ok:Bool) (e:Ending) (w':World):Prop:=∃m s a p A5 n5 c5,e= .returned (.tuple #[.agg #[.string m,.string s,.string a,.string p,.slice A5 n5 c5],.int .i64 (trC ok)])/\Below w.heap.size w w'
theorem ropen_any (A:Option Addr) (n c:Nat) (l:List HdrV) (w:World) (hr:H6.Hr w A n l) (hz:H6.Szs l) (hn:n<=500) (hc:n<=c) (ok:Bool) (HF:docB l=ok):
 Calls Tryz.prog 26 #[.slice A n c] w (ROpP w ok):=by
 have HR:=hid hr;have HZ:=hid hz;have HN:=hid (And.intro hr.1 (And.intro hn hc));have hC:=hid HF;obtain⟨p,hp⟩:∃p,l.takeWhile colonB=p:=⟨_,rfl⟩;have HP:=hid hp;obtain⟨k,hk⟩:∃k,p.length=k:=⟨_,rfl⟩;have Hg:p=l.take k:=by rw[<-hk,<-hp];exact takeWhile_take l colonB
 have H1:k<=n:=by rw[<-hr.1,<-hk,<-hp];exact(List.takeWhile_sublist _).length_le
 have HK:=hid (And.intro hk (And.intro Hg H1));obtain⟨Aq,HG,_,gp⟩:=H6.cut_h (c:=c) hr H1 hc;have HH:=hid HG;have gq:=λW=>run_cut_h A n c k H1 hc W;have H2:=hid (show H6.Hr w A k p from by rw[Hg];exact hr_take hr H1);have HI:=hid (λW (h:H6.Hr W A n l)=>rfront_any A n c l W h (by omega));rw[hp,hk]at HI;have HX:=hid (Blk.new w 57 #[.string ⟨#[]⟩,.string ⟨#[]⟩,.string ⟨#[]⟩,.string ⟨#[]⟩,.slice none 0 0]);have HB:=hid ((Below.refl w.heap.size w).alloc (Nat.le_refl _) (.cells #[.string ⟨#[]⟩,.string ⟨#[]⟩,.string ⟨#[]⟩,.string ⟨#[]⟩,.slice none 0 0] 57));clear hr hz hn hc HF hp hk Hg H1 HG;go_enter Tryz.func26,Tryz.ntmps26;go_upto_region 1 with fail;generalize w.alloc (.cells #[.string ⟨#[]⟩,.string ⟨#[]⟩,.string ⟨#[]⟩,.string ⟨#[]⟩,.slice none 0 0] 57)=W0 at*
 obtain⟨rb,Hc⟩:∃rb,w.heap.size=rb:=⟨_,rfl⟩;have hD:=hid Hc;rw[Hc]at HX;rw[Hc];clear Hc;go_wp2_with fail;refine(HI.out W0 (HR.out.below HB.out)).mono ?_;rintro e w1 ⟨rfl,HQ⟩;have ga:=hid HQ;clear HQ;go_upto_region 3 with fail;have h8:=hid (λW (hb:Below W0.heap.size W0 W)=>(show Below w.heap.size w W from HB.out.trans (hb.mono HB.out.size)));have hm:=hid (λW (hb:Below W0.heap.size W0 W)=>(show Blk W rb 57 #[.string ⟨#[]⟩,.string ⟨#[]⟩,.string ⟨#[]⟩,.string ⟨#[]⟩,.slice none 0 0]from HX.out.below hb HX.out.lt));go_loopw [5] (λt wr=>∃i:Nat,i<=k/\t= .int .i64 (i:Nat)/\Hid ((p.take i).all (okH p)=true/\Below W0.heap.size W0 wr)) (λt _=>k-(intOf t).toNat)
 case atStart=>exact⟨0,Nat.zero_le _,rfl,hid ⟨rfl,ga.out⟩⟩
 case round=>
  obtain⟨i,hi,rfl,hh⟩:=hrel;by_cases Hh:i<k
  · have gb:(i:Int)<(k:Int):=by omega
    have i0:(0:Int)<=(i:Int):=by omega
    have Hi:i<n:=by have:=HK.out.2.2;omega
    obtain⟨x,hx,HS⟩:=hget (l:=l) (i:=i) (by rw[HN.out.1];exact Hi);have HT:p[i]?=some x:=by rw[HK.out.2.1,List.getElem?_take,if_pos Hh];exact hx
    have gm:(i:Int)<(n:Int):=by omega
    obtain⟨ad,rfl,a0,a1,a2⟩:=(HR.out.below (h8.out wr hh.out.2)).at_ Hi;rw[HS]at a0 a1 a2;have hs:=szs_at HZ.out hx;have hW:=hid HT;have HU:i<=1000000000000:=by have:=HK.out;have:=HN.out;omega
    have ho:=hid (show i+1<=k/\k-(i+1)<k-i from⟨by omega,by omega⟩);have ej:=zs4 i HU;obtain⟨xn,xv,xb⟩:=x;simp only at a0 a1 a2 hs;obtain⟨vs,hT⟩:∃vs,valsN p (tx xn)=vs:=⟨_,rfl⟩;obtain⟨ct,Hj⟩:∃ct,vs.length=ct:=⟨_,rfl⟩;have Ha:cntN p (tx xn)=ct:=by rw[<-vals_len,hT,Hj]
    have hE:=hid (rall_any (some ad) k c p xn wr (H2.out.below (h8.out wr hh.out.2)) (by have:=HK.out;have:=HN.out;omega) vs hT);unfold AllP at hE;rw[Hj]at hE;have hI:=hid (λW=>rvalue_any xv hs.2 W);obtain⟨vb,Hl⟩:∃vb,valueB xv.data.toList=vb:=⟨_,rfl⟩;rw[Hl]at hI;obtain⟨bM,gc⟩:∃b,(xn.toList==[58,109,101,116,104,111,100])=b:=⟨_,rfl⟩;obtain⟨bS,gd⟩:∃b,(xn.toList==[58,115,99,104,101,109,101])=b:=⟨_,rfl⟩;obtain⟨bP,ge⟩:∃b,(xn.toList==[58,112,97,116,104])=b:=⟨_,rfl⟩;obtain⟨bA,gf⟩:∃b,(xn.toList==[58,97,117,116,104,111,114,105,116,121])=b:=⟨_,rfl⟩;have HO:Hid (okH p ⟨xn,xv,xb⟩=((bM||bS||bP||bA)&&decide (ct<=1)&&vb)):=hid (by
     unfold okH known4;rw[show valueB (tx (⟨xn,xv,xb⟩:HdrV).value)=vb from Hl,show cntN p (tx (⟨xn,xv,xb⟩:HdrV).name)=ct from Ha,<-gc,<-gd,<-ge,<-gf,Lib.toList_data]
     rfl)
    have HC:=hid (λh=>hh.out.1 |> λh0=>all_oneH h0 hW.out h);have hR:=hid (λh=>(front_bad HP.out hW.out h));have h5:=hid hh.out.2;have hJ:=hm.out wr h5.out;have r0:=hJ.cell 0;have r1:=hJ.cell 1;have r2:=hJ.cell 2;have r3:=hJ.cell 3;have r4:=hJ.cell 4;have q0:=hJ.frozen 0;have q1:=hJ.frozen 1;have q2:=hJ.frozen 2;have q3:=hJ.frozen 3;have q4:=hJ.frozen 4;simp only[List.getElem?_toArray,List.getElem?_cons_zero,List.getElem?_cons_succ]at r0 r1 r2 r3 r4;have gg:=hid hJ;clear hx HS HT hs HU hT Hj Ha Hl hh hi Hh Hi hJ;cases bM with
    |true=>
     have ht:=hid (λW (hb:Below W0.heap.size W0 W)=>(show W.cell? ⟨(ad.add (i*3)).block,(ad.add (i*3)).off+1,none⟩=some (.string xv)from by
      obtain⟨ad9,e9,_,t1,_⟩:=(HR.out.below (h8.out W hb)).at_ (show i<n by have:=ho.out;have:=HK.out;omega);injection e9 with e9
      subst e9;rw[show l.getD i hr0=⟨xn,xv,xb⟩from by rw[List.getD,show l[i]?=some ⟨xn,xv,xb⟩from by have h9:=hW.out;rw[HK.out.2.1,List.getElem?_take,if_pos (show i<k by have:=ho.out;omega)]at h9;exact h9];rfl]at t1;exact t1))
     by_cases hu:1<ct
     · have hU:(1:Int)<(ct:Int):=by omega
       have HD:=hid (hR.out (by rw[HO.out,decide_eq_false (show¬ct<=1 by omega)];simp));clear hu;go_wp2_with (first
        |(go_at_call 51
          with_reducible refine Calls.mono hE.out ?_
          rintro e w4 ⟨A4,c4,rfl,_,h6⟩;have h4:=hid (h5.out.trans (h6.mono h5.out.size));have h2:=hm.out w4 h4.out;have s0:=h2.cell 0;have s1:=h2.cell 1;have s2:=h2.cell 2;have s3:=h2.cell 3;have s4:=h2.cell 4;have z0:=h2.frozen 0;have z1:=h2.frozen 1;have z2:=h2.frozen 2;have z3:=h2.frozen 3;have z4:=h2.frozen 4;simp only[List.getElem?_toArray,List.getElem?_cons_zero,List.getElem?_cons_succ]at s0 s1 s2 s3 s4;have t1:=ht.out w4 h4.out;have he:=hid h2;clear h6 h2)
        |(go_at_call 52
          with_reducible refine Calls.mono (hI.out _) ?_
          rintro e w5 ⟨rfl,hw⟩;subst w5)
        |fail)
       refine bodyPost_ret (res26 _ _ rb _ _ _ _ _ (.int .i64 112) rfl rfl (put5 he.out _ _ _ _ _)) rfl ⟨_,_,_,_,_,_,_,by rw[<-hC.out,HD.out];rfl,bel5 (h8.out _ h4.out) (Nat.le_of_eq hD.out) _ _ _ _ _⟩
     · have hU:¬(1:Int)<(ct:Int):=by omega
       have hA:decide (ct<=1)=true:=by simp;omega
       cases vb with
       |true=>
        have HD:=hid (HC.out (by rw[HO.out,hA];rfl));clear hu hA;go_wp2_with (first
         |(go_at_call 51
           with_reducible refine Calls.mono hE.out ?_
           rintro e w4 ⟨A4,c4,rfl,_,h6⟩;have h4:=hid (h5.out.trans (h6.mono h5.out.size));have h2:=hm.out w4 h4.out;have s0:=h2.cell 0;have s1:=h2.cell 1;have s2:=h2.cell 2;have s3:=h2.cell 3;have s4:=h2.cell 4;have z0:=h2.frozen 0;have z1:=h2.frozen 1;have z2:=h2.frozen 2;have z3:=h2.frozen 3;have z4:=h2.frozen 4;simp only[List.getElem?_toArray,List.getElem?_cons_zero,List.getElem?_cons_succ]at s0 s1 s2 s3 s4;have t1:=ht.out w4 h4.out;have he:=hid h2;clear h6 h2)
         |(go_at_call 52
           with_reducible refine Calls.mono (hI.out _) ?_
           rintro e w5 ⟨rfl,hw⟩;subst w5)
         |fail)
        exact⟨⟨i+1,ho.out.1,by rw[ej],hid ⟨HD.out,h4.out⟩⟩,by rw[ej];exact ho.out.2⟩
       |false=>
        have HD:=hid (hR.out (by rw[HO.out,Bool.and_false]));clear hu hA;go_wp2_with (first
         |(go_at_call 51
           with_reducible refine Calls.mono hE.out ?_
           rintro e w4 ⟨A4,c4,rfl,_,h6⟩;have h4:=hid (h5.out.trans (h6.mono h5.out.size));have h2:=hm.out w4 h4.out;have s0:=h2.cell 0;have s1:=h2.cell 1;have s2:=h2.cell 2;have s3:=h2.cell 3;have s4:=h2.cell 4;have z0:=h2.frozen 0;have z1:=h2.frozen 1;have z2:=h2.frozen 2;have z3:=h2.frozen 3;have z4:=h2.frozen 4;simp only[List.getElem?_toArray,List.getElem?_cons_zero,List.getElem?_cons_succ]at s0 s1 s2 s3 s4;have t1:=ht.out w4 h4.out;have he:=hid h2;clear h6 h2)
         |(go_at_call 52
           with_reducible refine Calls.mono (hI.out _) ?_
           rintro e w5 ⟨rfl,hw⟩;subst w5)
         |fail)
        refine bodyPost_ret (res26 _ _ rb _ _ _ _ _ (.int .i64 112) rfl rfl (put5 he.out _ _ _ _ _)) rfl ⟨_,_,_,_,_,_,_,by rw[<-hC.out,HD.out];rfl,bel5 (h8.out _ h4.out) (Nat.le_of_eq hD.out) _ _ _ _ _⟩
    |false=>
     cases bS with
     |true=>
      have ht:=hid (λW (hb:Below W0.heap.size W0 W)=>(show W.cell? ⟨(ad.add (i*3)).block,(ad.add (i*3)).off+1,none⟩=some (.string xv)from by
       obtain⟨ad9,e9,_,t1,_⟩:=(HR.out.below (h8.out W hb)).at_ (show i<n by have:=ho.out;have:=HK.out;omega);injection e9 with e9
       subst e9;rw[show l.getD i hr0=⟨xn,xv,xb⟩from by rw[List.getD,show l[i]?=some ⟨xn,xv,xb⟩from by have h9:=hW.out;rw[HK.out.2.1,List.getElem?_take,if_pos (show i<k by have:=ho.out;omega)]at h9;exact h9];rfl]at t1;exact t1))
      by_cases hu:1<ct
      · have hU:(1:Int)<(ct:Int):=by omega
        have HD:=hid (hR.out (by rw[HO.out,decide_eq_false (show¬ct<=1 by omega)];simp));clear hu;go_wp2_with (first
         |(go_at_call 51
           with_reducible refine Calls.mono hE.out ?_
           rintro e w4 ⟨A4,c4,rfl,_,h6⟩;have h4:=hid (h5.out.trans (h6.mono h5.out.size));have h2:=hm.out w4 h4.out;have s0:=h2.cell 0;have s1:=h2.cell 1;have s2:=h2.cell 2;have s3:=h2.cell 3;have s4:=h2.cell 4;have z0:=h2.frozen 0;have z1:=h2.frozen 1;have z2:=h2.frozen 2;have z3:=h2.frozen 3;have z4:=h2.frozen 4;simp only[List.getElem?_toArray,List.getElem?_cons_zero,List.getElem?_cons_succ]at s0 s1 s2 s3 s4;have t1:=ht.out w4 h4.out;have he:=hid h2;clear h6 h2)
         |(go_at_call 52
           with_reducible refine Calls.mono (hI.out _) ?_
           rintro e w5 ⟨rfl,hw⟩;subst w5)
         |fail)
        refine bodyPost_ret (res26 _ _ rb _ _ _ _ _ (.int .i64 112) rfl rfl (put5 he.out _ _ _ _ _)) rfl ⟨_,_,_,_,_,_,_,by rw[<-hC.out,HD.out];rfl,bel5 (h8.out _ h4.out) (Nat.le_of_eq hD.out) _ _ _ _ _⟩
      · have hU:¬(1:Int)<(ct:Int):=by omega
        have hA:decide (ct<=1)=true:=by simp;omega
        cases vb with
        |true=>
         have HD:=hid (HC.out (by rw[HO.out,hA];rfl));clear hu hA;go_wp2_with (first
          |(go_at_call 51
            with_reducible refine Calls.mono hE.out ?_
            rintro e w4 ⟨A4,c4,rfl,_,h6⟩;have h4:=hid (h5.out.trans (h6.mono h5.out.size));have h2:=hm.out w4 h4.out;have s0:=h2.cell 0;have s1:=h2.cell 1;have s2:=h2.cell 2;have s3:=h2.cell 3;have s4:=h2.cell 4;have z0:=h2.frozen 0;have z1:=h2.frozen 1;have z2:=h2.frozen 2;have z3:=h2.frozen 3;have z4:=h2.frozen 4;simp only[List.getElem?_toArray,List.getElem?_cons_zero,List.getElem?_cons_succ]at s0 s1 s2 s3 s4;have t1:=ht.out w4 h4.out;have he:=hid h2;clear h6 h2)
          |(go_at_call 52
            with_reducible refine Calls.mono (hI.out _) ?_
            rintro e w5 ⟨rfl,hw⟩;subst w5)
          |fail)
         exact⟨⟨i+1,ho.out.1,by rw[ej],hid ⟨HD.out,h4.out⟩⟩,by rw[ej];exact ho.out.2⟩
        |false=>
         have HD:=hid (hR.out (by rw[HO.out,Bool.and_false]));clear hu hA;go_wp2_with (first
          |(go_at_call 51
            with_reducible refine Calls.mono hE.out ?_
            rintro e w4 ⟨A4,c4,rfl,_,h6⟩;have h4:=hid (h5.out.trans (h6.mono h5.out.size));have h2:=hm.out w4 h4.out;have s0:=h2.cell 0;have s1:=h2.cell 1;have s2:=h2.cell 2;have s3:=h2.cell 3;have s4:=h2.cell 4;have z0:=h2.frozen 0;have z1:=h2.frozen 1;have z2:=h2.frozen 2;have z3:=h2.frozen 3;have z4:=h2.frozen 4;simp only[List.getElem?_toArray,List.getElem?_cons_zero,List.getElem?_cons_succ]at s0 s1 s2 s3 s4;have t1:=ht.out w4 h4.out;have he:=hid h2;clear h6 h2)
          |(go_at_call 52
            with_reducible refine Calls.mono (hI.out _) ?_
            rintro e w5 ⟨rfl,hw⟩;subst w5)
          |fail)
         refine bodyPost_ret (res26 _ _ rb _ _ _ _ _ (.int .i64 112) rfl rfl (put5 he.out _ _ _ _ _)) rfl ⟨_,_,_,_,_,_,_,by rw[<-hC.out,HD.out];rfl,bel5 (h8.out _ h4.out) (Nat.le_of_eq hD.out) _ _ _ _ _⟩
     |false=>
      cases bP with
      |true=>
       have ht:=hid (λW (hb:Below W0.heap.size W0 W)=>(show W.cell? ⟨(ad.add (i*3)).block,(ad.add (i*3)).off+1,none⟩=some (.string xv)from by
        obtain⟨ad9,e9,_,t1,_⟩:=(HR.out.below (h8.out W hb)).at_ (show i<n by have:=ho.out;have:=HK.out;omega);injection e9 with e9
        subst e9;rw[show l.getD i hr0=⟨xn,xv,xb⟩from by rw[List.getD,show l[i]?=some ⟨xn,xv,xb⟩from by have h9:=hW.out;rw[HK.out.2.1,List.getElem?_take,if_pos (show i<k by have:=ho.out;omega)]at h9;exact h9];rfl]at t1;exact t1))
       by_cases hu:1<ct
       · have hU:(1:Int)<(ct:Int):=by omega
         have HD:=hid (hR.out (by rw[HO.out,decide_eq_false (show¬ct<=1 by omega)];simp));clear hu;go_wp2_with (first
          |(go_at_call 51
            with_reducible refine Calls.mono hE.out ?_
            rintro e w4 ⟨A4,c4,rfl,_,h6⟩;have h4:=hid (h5.out.trans (h6.mono h5.out.size));have h2:=hm.out w4 h4.out;have s0:=h2.cell 0;have s1:=h2.cell 1;have s2:=h2.cell 2;have s3:=h2.cell 3;have s4:=h2.cell 4;have z0:=h2.frozen 0;have z1:=h2.frozen 1;have z2:=h2.frozen 2;have z3:=h2.frozen 3;have z4:=h2.frozen 4;simp only[List.getElem?_toArray,List.getElem?_cons_zero,List.getElem?_cons_succ]at s0 s1 s2 s3 s4;have t1:=ht.out w4 h4.out;have he:=hid h2;clear h6 h2)
          |(go_at_call 52
            with_reducible refine Calls.mono (hI.out _) ?_
            rintro e w5 ⟨rfl,hw⟩;subst w5)
          |fail)
         refine bodyPost_ret (res26 _ _ rb _ _ _ _ _ (.int .i64 112) rfl rfl (put5 he.out _ _ _ _ _)) rfl ⟨_,_,_,_,_,_,_,by rw[<-hC.out,HD.out];rfl,bel5 (h8.out _ h4.out) (Nat.le_of_eq hD.out) _ _ _ _ _⟩
       · have hU:¬(1:Int)<(ct:Int):=by omega
         have hA:decide (ct<=1)=true:=by simp;omega
         cases vb with
         |true=>
          have HD:=hid (HC.out (by rw[HO.out,hA];rfl));clear hu hA;go_wp2_with (first
           |(go_at_call 51
             with_reducible refine Calls.mono hE.out ?_
             rintro e w4 ⟨A4,c4,rfl,_,h6⟩;have h4:=hid (h5.out.trans (h6.mono h5.out.size));have h2:=hm.out w4 h4.out;have s0:=h2.cell 0;have s1:=h2.cell 1;have s2:=h2.cell 2;have s3:=h2.cell 3;have s4:=h2.cell 4;have z0:=h2.frozen 0;have z1:=h2.frozen 1;have z2:=h2.frozen 2;have z3:=h2.frozen 3;have z4:=h2.frozen 4;simp only[List.getElem?_toArray,List.getElem?_cons_zero,List.getElem?_cons_succ]at s0 s1 s2 s3 s4;have t1:=ht.out w4 h4.out;have he:=hid h2;clear h6 h2)
           |(go_at_call 52
             with_reducible refine Calls.mono (hI.out _) ?_
             rintro e w5 ⟨rfl,hw⟩;subst w5)
           |fail)
          exact⟨⟨i+1,ho.out.1,by rw[ej],hid ⟨HD.out,h4.out⟩⟩,by rw[ej];exact ho.out.2⟩
         |false=>
          have HD:=hid (hR.out (by rw[HO.out,Bool.and_false]));clear hu hA;go_wp2_with (first
           |(go_at_call 51
             with_reducible refine Calls.mono hE.out ?_
             rintro e w4 ⟨A4,c4,rfl,_,h6⟩;have h4:=hid (h5.out.trans (h6.mono h5.out.size));have h2:=hm.out w4 h4.out;have s0:=h2.cell 0;have s1:=h2.cell 1;have s2:=h2.cell 2;have s3:=h2.cell 3;have s4:=h2.cell 4;have z0:=h2.frozen 0;have z1:=h2.frozen 1;have z2:=h2.frozen 2;have z3:=h2.frozen 3;have z4:=h2.frozen 4;simp only[List.getElem?_toArray,List.getElem?_cons_zero,List.getElem?_cons_succ]at s0 s1 s2 s3 s4;have t1:=ht.out w4 h4.out;have he:=hid h2;clear h6 h2)
           |(go_at_call 52
             with_reducible refine Calls.mono (hI.out _) ?_
             rintro e w5 ⟨rfl,hw⟩;subst w5)
           |fail)
          refine bodyPost_ret (res26 _ _ rb _ _ _ _ _ (.int .i64 112) rfl rfl (put5 he.out _ _ _ _ _)) rfl ⟨_,_,_,_,_,_,_,by rw[<-hC.out,HD.out];rfl,bel5 (h8.out _ h4.out) (Nat.le_of_eq hD.out) _ _ _ _ _⟩
      |false=>
       cases bA with
       |true=>
        have ht:=hid (λW (hb:Below W0.heap.size W0 W)=>(show W.cell? ⟨(ad.add (i*3)).block,(ad.add (i*3)).off+1,none⟩=some (.string xv)from by
         obtain⟨ad9,e9,_,t1,_⟩:=(HR.out.below (h8.out W hb)).at_ (show i<n by have:=ho.out;have:=HK.out;omega);injection e9 with e9
         subst e9;rw[show l.getD i hr0=⟨xn,xv,xb⟩from by rw[List.getD,show l[i]?=some ⟨xn,xv,xb⟩from by have h9:=hW.out;rw[HK.out.2.1,List.getElem?_take,if_pos (show i<k by have:=ho.out;omega)]at h9;exact h9];rfl]at t1;exact t1))
        by_cases hu:1<ct
        · have hU:(1:Int)<(ct:Int):=by omega
          have HD:=hid (hR.out (by rw[HO.out,decide_eq_false (show¬ct<=1 by omega)];simp));clear hu;go_wp2_with (first
           |(go_at_call 51
             with_reducible refine Calls.mono hE.out ?_
             rintro e w4 ⟨A4,c4,rfl,_,h6⟩;have h4:=hid (h5.out.trans (h6.mono h5.out.size));have h2:=hm.out w4 h4.out;have s0:=h2.cell 0;have s1:=h2.cell 1;have s2:=h2.cell 2;have s3:=h2.cell 3;have s4:=h2.cell 4;have z0:=h2.frozen 0;have z1:=h2.frozen 1;have z2:=h2.frozen 2;have z3:=h2.frozen 3;have z4:=h2.frozen 4;simp only[List.getElem?_toArray,List.getElem?_cons_zero,List.getElem?_cons_succ]at s0 s1 s2 s3 s4;have t1:=ht.out w4 h4.out;have he:=hid h2;clear h6 h2)
           |(go_at_call 52
             with_reducible refine Calls.mono (hI.out _) ?_
             rintro e w5 ⟨rfl,hw⟩;subst w5)
           |fail)
          refine bodyPost_ret (res26 _ _ rb _ _ _ _ _ (.int .i64 112) rfl rfl (put5 he.out _ _ _ _ _)) rfl ⟨_,_,_,_,_,_,_,by rw[<-hC.out,HD.out];rfl,bel5 (h8.out _ h4.out) (Nat.le_of_eq hD.out) _ _ _ _ _⟩
        · have hU:¬(1:Int)<(ct:Int):=by omega
          have hA:decide (ct<=1)=true:=by simp;omega
          cases vb with
          |true=>
           have HD:=hid (HC.out (by rw[HO.out,hA];rfl));clear hu hA;go_wp2_with (first
            |(go_at_call 51
              with_reducible refine Calls.mono hE.out ?_
              rintro e w4 ⟨A4,c4,rfl,_,h6⟩;have h4:=hid (h5.out.trans (h6.mono h5.out.size));have h2:=hm.out w4 h4.out;have s0:=h2.cell 0;have s1:=h2.cell 1;have s2:=h2.cell 2;have s3:=h2.cell 3;have s4:=h2.cell 4;have z0:=h2.frozen 0;have z1:=h2.frozen 1;have z2:=h2.frozen 2;have z3:=h2.frozen 3;have z4:=h2.frozen 4;simp only[List.getElem?_toArray,List.getElem?_cons_zero,List.getElem?_cons_succ]at s0 s1 s2 s3 s4;have t1:=ht.out w4 h4.out;have he:=hid h2;clear h6 h2)
            |(go_at_call 52
              with_reducible refine Calls.mono (hI.out _) ?_
              rintro e w5 ⟨rfl,hw⟩;subst w5)
            |fail)
           exact⟨⟨i+1,ho.out.1,by rw[ej],hid ⟨HD.out,h4.out⟩⟩,by rw[ej];exact ho.out.2⟩
          |false=>
           have HD:=hid (hR.out (by rw[HO.out,Bool.and_false]));clear hu hA;go_wp2_with (first
            |(go_at_call 51
              with_reducible refine Calls.mono hE.out ?_
              rintro e w4 ⟨A4,c4,rfl,_,h6⟩;have h4:=hid (h5.out.trans (h6.mono h5.out.size));have h2:=hm.out w4 h4.out;have s0:=h2.cell 0;have s1:=h2.cell 1;have s2:=h2.cell 2;have s3:=h2.cell 3;have s4:=h2.cell 4;have z0:=h2.frozen 0;have z1:=h2.frozen 1;have z2:=h2.frozen 2;have z3:=h2.frozen 3;have z4:=h2.frozen 4;simp only[List.getElem?_toArray,List.getElem?_cons_zero,List.getElem?_cons_succ]at s0 s1 s2 s3 s4;have t1:=ht.out w4 h4.out;have he:=hid h2;clear h6 h2)
            |(go_at_call 52
              with_reducible refine Calls.mono (hI.out _) ?_
              rintro e w5 ⟨rfl,hw⟩;subst w5)
            |fail)
           refine bodyPost_ret (res26 _ _ rb _ _ _ _ _ (.int .i64 112) rfl rfl (put5 he.out _ _ _ _ _)) rfl ⟨_,_,_,_,_,_,_,by rw[<-hC.out,HD.out];rfl,bel5 (h8.out _ h4.out) (Nat.le_of_eq hD.out) _ _ _ _ _⟩
       |false=>
        have HD:=hid (hR.out (by rw[HO.out];rfl));go_wp2_with fail;refine bodyPost_ret (res26 _ _ rb _ _ _ _ _ (.int .i64 112) rfl rfl (put5 gg.out _ _ _ _ _)) rfl ⟨_,_,_,_,_,_,_,by rw[<-hC.out,HD.out];rfl,bel5 (h8.out _ h5.out) (Nat.le_of_eq hD.out) _ _ _ _ _⟩
  · obtain rfl:i=k:=by omega
    have gb:¬(i:Int)<(i:Int):=by omega
    have HV:p.take i=p:=by rw[<-HK.out.1];exact List.take_length
    have HW:frontB p=true:=by
     have h1:=hh.out.1;rw[HV]at h1;exact h1
    have h5:=hid hh.out.2;have Hv:=hid HW;obtain⟨vm,Hm⟩:∃v,firstN p colM=v:=⟨_,rfl⟩;obtain⟨vs,hT⟩:∃v,firstN p colS=v:=⟨_,rfl⟩;obtain⟨va,HY⟩:∃v,firstN p colA=v:=⟨_,rfl⟩;obtain⟨vp,Hn⟩:∃v,firstN p colP=v:=⟨_,rfl⟩;have H3:i<=100000:=by have:=HK.out;have:=HN.out;omega
    have g5:=hid (λW (hb:Below W0.heap.size W0 W)=>rfirst_any A i c p ⟨#[58,109,101,116,104,111,100]⟩ W (H2.out.below (h8.out W hb)) H3 vm Hm);have Ho:=hid (λW (hb:Below W0.heap.size W0 W)=>rfirst_any A i c p ⟨#[58,115,99,104,101,109,101]⟩ W (H2.out.below (h8.out W hb)) H3 vs hT);have He:=hid (λW (hb:Below W0.heap.size W0 W)=>rfirst_any A i c p ⟨#[58,97,117,116,104,111,114,105,116,121]⟩ W (H2.out.below (h8.out W hb)) H3 va HY);have H4:=hid (λW (hb:Below W0.heap.size W0 W)=>rfirst_any A i c p ⟨#[58,112,97,116,104]⟩ W (H2.out.below (h8.out W hb)) H3 vp Hn);have H5:=hid (λW (hb:Below W0.heap.size W0 W)=>rtrailers_any Aq (n-i) (c-i) (l.drop i) W (HH.out.below (h8.out W hb)) (λx hx=>HZ.out x (List.mem_of_mem_drop hx)) (by have:=HN.out;omega));have gh:=hid (λW (hb:Below W0.heap.size W0 W)=>H6.headers_any Aq (n-i) (c-i) (l.drop i) W (by have:=HN.out;omega) (HH.out.below (h8.out W hb)));have hX:Hid (docB l=(!(tx vm).isEmpty&& !(tx vs).isEmpty&&pathB (tx vp)&&(l.drop i).all plainB)):=hid (by
     unfold docB;rw[HP.out,Hv.out,Hm,hT,Hn,dropWhile_drop,HP.out,HK.out.1,Bool.true_and])
    clear hh hi Hh HV HW Hm hT HY Hn H3;go_wp2_with fail;go_cut [8]from 57 to 73 (λv wx=>Hid (∃bx,v= .pointer (some ⟨bx,0,none⟩)/\Blk wx bx 57 #[.string vm,.string vs,.string va,.string vp,.slice none 0 0]/\W0.heap.size<=bx/\Below W0.heap.size W0 wx))
    case first=>
     as_aux_lemma=>
      refine wp_region_noPanic ?_;refine wp_region_held_drew (S:=(λ_=>True)) (by kernel_rfl) trivial (λhHeld=>?_);refine tk 0 ?_;refine tk 1 ?_;refine tk 2 ?_;refine tk 4 ?_;refine tk 5 ?_;refine tk 6 ?_;refine tk 8 ?_;refine tk 9 ?_;refine tk 10 ?_;refine tk 12 ?_;refine tk 13 ?_;refine tk 14 ?_;refine tkr2 3 17 (λK hK=>?_) (λK hK=>?_)
      · go_simp
        go_at_call 53;refine(g5.out wr.drew (bdN h5.out 1)).mono ?_;rintro e wm ⟨rfl,hS⟩;have hF:=hid ((bdN h5.out 1).trans (hS.mono (bdN h5.out 1).size));clear hS;refine hK.out _ _ trivial (λhHeld2=>?_);clear hHeld;have hHeld:=hHeld2;clear hHeld2 hK K
        (try simp only[Act.put,List.setIfInBounds_toArray,List.set_cons_zero,List.set_cons_succ])
        refine tkr2 7 17 (λK hK=>?_) (λK hK=>?_)
        · go_simp
          go_at_call 53;refine(Ho.out wm hF.out).mono ?_;rintro e ws ⟨rfl,hL⟩;have hf:=hid (hF.out.trans (hL.mono hF.out.size));clear hL;refine hK.out _ _ trivial (λhHeld2=>?_);clear hHeld;have hHeld:=hHeld2;clear hHeld2 hK K
          (try simp only[Act.put,List.setIfInBounds_toArray,List.set_cons_zero,List.set_cons_succ])
          refine tkr2 11 17 (λK hK=>?_) (λK hK=>?_)
          · go_simp
            go_at_call 53;refine(He.out ws hf.out).mono ?_;rintro e wa ⟨rfl,hG⟩;have hd:=hid (hf.out.trans (hG.mono hf.out.size));clear hG;refine hK.out _ _ trivial (λhHeld2=>?_);clear hHeld;have hHeld:=hHeld2;clear hHeld2 hK K
            (try simp only[Act.put,List.setIfInBounds_toArray,List.set_cons_zero,List.set_cons_succ])
            refine tkr2 15 17 (λK hK=>?_) (λK hK=>?_)
            · go_simp
              go_at_call 53;refine(H4.out wa hd.out).mono ?_;rintro e wp ⟨rfl,hj⟩;have hP:=hid (hd.out.trans (hj.mono hd.out.size));clear hj;refine hK.out _ _ trivial (λhHeld2=>?_);clear hHeld;have hHeld:=hHeld2;clear hHeld2 hK K
              (try simp only[Act.put,List.setIfInBounds_toArray,List.set_cons_zero,List.set_cons_succ])
              refine tk 16 ?_;refine tkr 17 (λK hK=>?_);go_simp;refine hK.out _ _ trivial (λhHeld2=>?_);clear hHeld;have hHeld:=hHeld2;clear hHeld2 hK K
              (try simp only[Act.put,List.setIfInBounds_toArray,List.set_cons_zero,List.set_cons_succ])
              refine tkr 18 (λK hK=>?_);go_simp;refine hK.out _ _ trivial (λhHeld2=>?_);clear hHeld;have hHeld:=hHeld2;clear hHeld2 hK K
              (try simp only[Act.put,List.setIfInBounds_toArray,List.set_cons_zero,List.set_cons_succ])
              refine wpAnyH_done (by kernel_rfl) ?_ _;refine NoPanic.normal ?_;go_wp2_with fail;go_meet;exact hid ⟨_,rfl,Blk.new wp _ _,hP.out.size,hP.out.alloc hP.out.size _⟩
            · go_simp
              refine hK.out _ _ trivial (λhHeld2=>?_);clear hHeld;have hHeld:=hHeld2;clear hHeld2 hK K
              (try simp only[Act.put,List.setIfInBounds_toArray,List.set_cons_zero,List.set_cons_succ])
              refine tkr 15 (λK hK=>?_);go_simp;go_at_call 53;refine(H4.out (wa.alloc (.cells #[.string ⟨#[]⟩,.string ⟨#[]⟩,.string ⟨#[]⟩,.string ⟨#[]⟩,.slice none 0 0] 57)) (hd.out.alloc hd.out.size (.cells #[.string ⟨#[]⟩,.string ⟨#[]⟩,.string ⟨#[]⟩,.string ⟨#[]⟩,.slice none 0 0] 57))).mono ?_;rintro e wp ⟨rfl,hj⟩;have hP:=hid ((hd.out.alloc hd.out.size (.cells #[.string ⟨#[]⟩,.string ⟨#[]⟩,.string ⟨#[]⟩,.string ⟨#[]⟩,.slice none 0 0] 57)).trans (hj.mono (hd.out.alloc hd.out.size (.cells #[.string ⟨#[]⟩,.string ⟨#[]⟩,.string ⟨#[]⟩,.string ⟨#[]⟩,.slice none 0 0] 57)).size));have h3:=hid (show Blk wp wa.heap.size 57 #[.string ⟨#[]⟩,.string ⟨#[]⟩,.string ⟨#[]⟩,.string ⟨#[]⟩,.slice none 0 0]from Blk.bel (Blk.new wa 57 #[.string ⟨#[]⟩,.string ⟨#[]⟩,.string ⟨#[]⟩,.string ⟨#[]⟩,.slice none 0 0]) hj);have hH:=hid (show W0.heap.size<=wa.heap.size from hd.out.size);clear hj;refine hK.out _ _ trivial (λhHeld2=>?_);clear hHeld;have hHeld:=hHeld2;clear hHeld2 hK K
              (try simp only[Act.put,List.setIfInBounds_toArray,List.set_cons_zero,List.set_cons_succ])
              refine tk 16 ?_;refine tkr 18 (λK hK=>?_);have z0:=h3.out.cell 0;have z1:=h3.out.cell 1;have z2:=h3.out.cell 2;have z3:=h3.out.cell 3;have z4:=h3.out.cell 4;have zf0:=h3.out.frozen 0;have zf1:=h3.out.frozen 1;have zf2:=h3.out.frozen 2;have zf3:=h3.out.frozen 3;have zf4:=h3.out.frozen 4;have zl:=h3.out.lt;simp only[List.getElem?_toArray,List.getElem?_cons_zero,List.getElem?_cons_succ]at z0 z1 z2 z3 z4;go_simp;refine hK.out _ _ trivial (λhHeld2=>?_);clear hHeld;have hHeld:=hHeld2;clear hHeld2 hK K
              (try simp only[Act.put,List.setIfInBounds_toArray,List.set_cons_zero,List.set_cons_succ])
              refine wpAnyH_done (by kernel_rfl) ?_ _;refine NoPanic.normal ?_;go_wp2_with fail;go_meet;exact hid ⟨_,rfl,put5 h3.out _ _ _ _ _,hH.out,bel5 hP.out hH.out _ _ _ _ _⟩
          · go_simp
            refine hK.out _ _ trivial (λhHeld2=>?_);clear hHeld;have hHeld:=hHeld2;clear hHeld2 hK K
            (try simp only[Act.put,List.setIfInBounds_toArray,List.set_cons_zero,List.set_cons_succ])
            refine tkr 11 (λK hK=>?_);go_simp;go_at_call 53;refine(He.out (ws.alloc (.cells #[.string ⟨#[]⟩,.string ⟨#[]⟩,.string ⟨#[]⟩,.string ⟨#[]⟩,.slice none 0 0] 57)) (hf.out.alloc hf.out.size (.cells #[.string ⟨#[]⟩,.string ⟨#[]⟩,.string ⟨#[]⟩,.string ⟨#[]⟩,.slice none 0 0] 57))).mono ?_;rintro e wa ⟨rfl,hG⟩;have hd:=hid ((hf.out.alloc hf.out.size (.cells #[.string ⟨#[]⟩,.string ⟨#[]⟩,.string ⟨#[]⟩,.string ⟨#[]⟩,.slice none 0 0] 57)).trans (hG.mono (hf.out.alloc hf.out.size (.cells #[.string ⟨#[]⟩,.string ⟨#[]⟩,.string ⟨#[]⟩,.string ⟨#[]⟩,.slice none 0 0] 57)).size));have H7:=hid (show Blk wa ws.heap.size 57 #[.string ⟨#[]⟩,.string ⟨#[]⟩,.string ⟨#[]⟩,.string ⟨#[]⟩,.slice none 0 0]from Blk.bel (Blk.new ws 57 #[.string ⟨#[]⟩,.string ⟨#[]⟩,.string ⟨#[]⟩,.string ⟨#[]⟩,.slice none 0 0]) hG);have hH:=hid (show W0.heap.size<=ws.heap.size from hf.out.size);clear hG;refine hK.out _ _ trivial (λhHeld2=>?_);clear hHeld;have hHeld:=hHeld2;clear hHeld2 hK K
            (try simp only[Act.put,List.setIfInBounds_toArray,List.set_cons_zero,List.set_cons_succ])
            refine tkr 15 (λK hK=>?_);go_simp;go_at_call 53;refine(H4.out wa hd.out).mono ?_;rintro e wp ⟨rfl,hj⟩;have hP:=hid (hd.out.trans (hj.mono hd.out.size));have h3:=hid (Blk.bel H7.out hj);clear hj;refine hK.out _ _ trivial (λhHeld2=>?_);clear hHeld;have hHeld:=hHeld2;clear hHeld2 hK K
            (try simp only[Act.put,List.setIfInBounds_toArray,List.set_cons_zero,List.set_cons_succ])
            refine tk 16 ?_;refine tkr 18 (λK hK=>?_);have z0:=h3.out.cell 0;have z1:=h3.out.cell 1;have z2:=h3.out.cell 2;have z3:=h3.out.cell 3;have z4:=h3.out.cell 4;have zf0:=h3.out.frozen 0;have zf1:=h3.out.frozen 1;have zf2:=h3.out.frozen 2;have zf3:=h3.out.frozen 3;have zf4:=h3.out.frozen 4;have zl:=h3.out.lt;simp only[List.getElem?_toArray,List.getElem?_cons_zero,List.getElem?_cons_succ]at z0 z1 z2 z3 z4;go_simp;refine hK.out _ _ trivial (λhHeld2=>?_);clear hHeld;have hHeld:=hHeld2;clear hHeld2 hK K
            (try simp only[Act.put,List.setIfInBounds_toArray,List.set_cons_zero,List.set_cons_succ])
            refine wpAnyH_done (by kernel_rfl) ?_ _;refine NoPanic.normal ?_;go_wp2_with fail;go_meet;exact hid ⟨_,rfl,put5 h3.out _ _ _ _ _,hH.out,bel5 hP.out hH.out _ _ _ _ _⟩
        · go_simp
          refine hK.out _ _ trivial (λhHeld2=>?_);clear hHeld;have hHeld:=hHeld2;clear hHeld2 hK K
          (try simp only[Act.put,List.setIfInBounds_toArray,List.set_cons_zero,List.set_cons_succ])
          refine tkr 7 (λK hK=>?_);go_simp;go_at_call 53;refine(Ho.out (wm.alloc (.cells #[.string ⟨#[]⟩,.string ⟨#[]⟩,.string ⟨#[]⟩,.string ⟨#[]⟩,.slice none 0 0] 57)) (hF.out.alloc hF.out.size (.cells #[.string ⟨#[]⟩,.string ⟨#[]⟩,.string ⟨#[]⟩,.string ⟨#[]⟩,.slice none 0 0] 57))).mono ?_;rintro e ws ⟨rfl,hL⟩;have hf:=hid ((hF.out.alloc hF.out.size (.cells #[.string ⟨#[]⟩,.string ⟨#[]⟩,.string ⟨#[]⟩,.string ⟨#[]⟩,.slice none 0 0] 57)).trans (hL.mono (hF.out.alloc hF.out.size (.cells #[.string ⟨#[]⟩,.string ⟨#[]⟩,.string ⟨#[]⟩,.string ⟨#[]⟩,.slice none 0 0] 57)).size));have Hp:=hid (show Blk ws wm.heap.size 57 #[.string ⟨#[]⟩,.string ⟨#[]⟩,.string ⟨#[]⟩,.string ⟨#[]⟩,.slice none 0 0]from Blk.bel (Blk.new wm 57 #[.string ⟨#[]⟩,.string ⟨#[]⟩,.string ⟨#[]⟩,.string ⟨#[]⟩,.slice none 0 0]) hL);have hH:=hid (show W0.heap.size<=wm.heap.size from hF.out.size);clear hL;refine hK.out _ _ trivial (λhHeld2=>?_);clear hHeld;have hHeld:=hHeld2;clear hHeld2 hK K
          (try simp only[Act.put,List.setIfInBounds_toArray,List.set_cons_zero,List.set_cons_succ])
          refine tkr 11 (λK hK=>?_);go_simp;go_at_call 53;refine(He.out ws hf.out).mono ?_;rintro e wa ⟨rfl,hG⟩;have hd:=hid (hf.out.trans (hG.mono hf.out.size));have H7:=hid (Blk.bel Hp.out hG);clear hG;refine hK.out _ _ trivial (λhHeld2=>?_);clear hHeld;have hHeld:=hHeld2;clear hHeld2 hK K
          (try simp only[Act.put,List.setIfInBounds_toArray,List.set_cons_zero,List.set_cons_succ])
          refine tkr 15 (λK hK=>?_);go_simp;go_at_call 53;refine(H4.out wa hd.out).mono ?_;rintro e wp ⟨rfl,hj⟩;have hP:=hid (hd.out.trans (hj.mono hd.out.size));have h3:=hid (Blk.bel H7.out hj);clear hj;refine hK.out _ _ trivial (λhHeld2=>?_);clear hHeld;have hHeld:=hHeld2;clear hHeld2 hK K
          (try simp only[Act.put,List.setIfInBounds_toArray,List.set_cons_zero,List.set_cons_succ])
          refine tk 16 ?_;refine tkr 18 (λK hK=>?_);have z0:=h3.out.cell 0;have z1:=h3.out.cell 1;have z2:=h3.out.cell 2;have z3:=h3.out.cell 3;have z4:=h3.out.cell 4;have zf0:=h3.out.frozen 0;have zf1:=h3.out.frozen 1;have zf2:=h3.out.frozen 2;have zf3:=h3.out.frozen 3;have zf4:=h3.out.frozen 4;have zl:=h3.out.lt;simp only[List.getElem?_toArray,List.getElem?_cons_zero,List.getElem?_cons_succ]at z0 z1 z2 z3 z4;go_simp;refine hK.out _ _ trivial (λhHeld2=>?_);clear hHeld;have hHeld:=hHeld2;clear hHeld2 hK K
          (try simp only[Act.put,List.setIfInBounds_toArray,List.set_cons_zero,List.set_cons_succ])
          refine wpAnyH_done (by kernel_rfl) ?_ _;refine NoPanic.normal ?_;go_wp2_with fail;go_meet;exact hid ⟨_,rfl,put5 h3.out _ _ _ _ _,hH.out,bel5 hP.out hH.out _ _ _ _ _⟩
      · go_simp
        refine hK.out _ _ trivial (λhHeld2=>?_);clear hHeld;have hHeld:=hHeld2;clear hHeld2 hK K
        (try simp only[Act.put,List.setIfInBounds_toArray,List.set_cons_zero,List.set_cons_succ])
        refine tkr 3 (λK hK=>?_);go_simp;go_at_call 53;refine(g5.out (wr.drew.alloc (.cells #[.string ⟨#[]⟩,.string ⟨#[]⟩,.string ⟨#[]⟩,.string ⟨#[]⟩,.slice none 0 0] 57)) ((bdN h5.out 1).alloc (bdN h5.out 1).size (.cells #[.string ⟨#[]⟩,.string ⟨#[]⟩,.string ⟨#[]⟩,.string ⟨#[]⟩,.slice none 0 0] 57))).mono ?_;rintro e wm ⟨rfl,hS⟩;have hF:=hid (((bdN h5.out 1).alloc (bdN h5.out 1).size (.cells #[.string ⟨#[]⟩,.string ⟨#[]⟩,.string ⟨#[]⟩,.string ⟨#[]⟩,.slice none 0 0] 57)).trans (hS.mono ((bdN h5.out 1).alloc (bdN h5.out 1).size (.cells #[.string ⟨#[]⟩,.string ⟨#[]⟩,.string ⟨#[]⟩,.string ⟨#[]⟩,.slice none 0 0] 57)).size));have gi:=hid (show Blk wm wr.heap.size 57 #[.string ⟨#[]⟩,.string ⟨#[]⟩,.string ⟨#[]⟩,.string ⟨#[]⟩,.slice none 0 0]from Blk.bel (Blk.new wr.drew 57 #[.string ⟨#[]⟩,.string ⟨#[]⟩,.string ⟨#[]⟩,.string ⟨#[]⟩,.slice none 0 0]) hS);have hH:=hid (show W0.heap.size<=wr.drew.heap.size from(bdN h5.out 1).size);clear hS;refine hK.out _ _ trivial (λhHeld2=>?_);clear hHeld;have hHeld:=hHeld2;clear hHeld2 hK K
        (try simp only[Act.put,List.setIfInBounds_toArray,List.set_cons_zero,List.set_cons_succ])
        refine tkr 7 (λK hK=>?_);go_simp;go_at_call 53;refine(Ho.out wm hF.out).mono ?_;rintro e ws ⟨rfl,hL⟩;have hf:=hid (hF.out.trans (hL.mono hF.out.size));have Hp:=hid (Blk.bel gi.out hL);clear hL;refine hK.out _ _ trivial (λhHeld2=>?_);clear hHeld;have hHeld:=hHeld2;clear hHeld2 hK K
        (try simp only[Act.put,List.setIfInBounds_toArray,List.set_cons_zero,List.set_cons_succ])
        refine tkr 11 (λK hK=>?_);go_simp;go_at_call 53;refine(He.out ws hf.out).mono ?_;rintro e wa ⟨rfl,hG⟩;have hd:=hid (hf.out.trans (hG.mono hf.out.size));have H7:=hid (Blk.bel Hp.out hG);clear hG;refine hK.out _ _ trivial (λhHeld2=>?_);clear hHeld;have hHeld:=hHeld2;clear hHeld2 hK K
        (try simp only[Act.put,List.setIfInBounds_toArray,List.set_cons_zero,List.set_cons_succ])
        refine tkr 15 (λK hK=>?_);go_simp;go_at_call 53;refine(H4.out wa hd.out).mono ?_;rintro e wp ⟨rfl,hj⟩;have hP:=hid (hd.out.trans (hj.mono hd.out.size));have h3:=hid (Blk.bel H7.out hj);clear hj;refine hK.out _ _ trivial (λhHeld2=>?_);clear hHeld;have hHeld:=hHeld2;clear hHeld2 hK K
        (try simp only[Act.put,List.setIfInBounds_toArray,List.set_cons_zero,List.set_cons_succ])
        refine tk 16 ?_;refine tkr 18 (λK hK=>?_);have z0:=h3.out.cell 0;have z1:=h3.out.cell 1;have z2:=h3.out.cell 2;have z3:=h3.out.cell 3;have z4:=h3.out.cell 4;have zf0:=h3.out.frozen 0;have zf1:=h3.out.frozen 1;have zf2:=h3.out.frozen 2;have zf3:=h3.out.frozen 3;have zf4:=h3.out.frozen 4;have zl:=h3.out.lt;simp only[List.getElem?_toArray,List.getElem?_cons_zero,List.getElem?_cons_succ]at z0 z1 z2 z3 z4;go_simp;refine hK.out _ _ trivial (λhHeld2=>?_);clear hHeld;have hHeld:=hHeld2;clear hHeld2 hK K
        (try simp only[Act.put,List.setIfInBounds_toArray,List.set_cons_zero,List.set_cons_succ])
        refine wpAnyH_done (by kernel_rfl) ?_ _;refine NoPanic.normal ?_;go_wp2_with fail;go_meet;exact hid ⟨_,rfl,put5 h3.out _ _ _ _ _,hH.out,bel5 hP.out hH.out _ _ _ _ _⟩
    case rest=>
     obtain⟨bx,rfl,H8,g6,g7⟩:=hcut.out;have g8:=hid H8;have hH:=hid g6;have hQ:=hid g7;have b0:=H8.cell 0;have b1:=H8.cell 1;have b3:=H8.cell 3;simp only[List.getElem?_toArray,List.getElem?_cons_zero,List.getElem?_cons_succ]at b0 b1 b3;clear hcut H8 g6 g7;generalize wc=wk at*
     obtain⟨pb,hY⟩:∃pb,pathB (tx vp)=pb:=⟨_,rfl⟩;go_upto_region 10 with fail;go_cut [9]from 74 to 88 (λv wx=>Hid (v= .bool pb/\wx=wk))
     case first=>
      as_aux_lemma=>
      have hl:vp.data.toList.length=vp.size:=by simp
      by_cases h0:vp.size=0
      · have hv:pb=false:=by
         rw[<-hY,show tx vp=[]from List.eq_nil_of_length_eq_zero (by show vp.data.toList.length=0;omega)]
         rfl
        have Hx:¬(0:Int)<(vp.size:Int):=by omega
        have gs:((vp.size:Nat):Int)=0:=by omega
        clear hl h0 hY;go_wp2_with fail;go_meet;exact hid ⟨by rw[hv],rfl⟩
      · have gt:0<vp.size:=by omega
        have Hx:(0:Int)<(vp.size:Int):=by omega
        obtain⟨x0,Hq⟩:∃x,vp.data.toList.getD 0 0=x:=⟨_,rfl⟩;obtain⟨a,ha⟩:∃a,x0.toNat=a:=⟨_,rfl⟩;have gu:∀h:0<vp.size,(vp[0]'h).toNat=a:=λh=>by
         rw[<-ha,<-Hq,List.getD,List.getElem?_eq_getElem (by omega)];rfl
        have H9:pb=(decide (a=47)||(tx vp==[42])):=by
         rw[<-hY];unfold pathB;have hne:(tx vp).isEmpty=false:=by
          cases hq:tx vp with
          |nil=>have:vp.data.toList=[]:=hq
                rw[this]at hl;simp at hl;omega
          |cons _ _=>rfl
         rw[hne,show(tx vp).getD 0 0=x0 from Hq];have:(x0==47)=decide (a=47):=by
          rw[Bool.eq_iff_iff];simp only[beq_iff_eq,decide_eq_true_eq];rw[<-ha];constructor
          · intro h;rw[h];rfl
          · intro h;exact UInt8.toNat_inj.1 h
         rw[this]
         rfl
        obtain⟨b42,Hy⟩:∃b,(vp.toList==[42])=b:=⟨_,rfl⟩;rw[show tx vp=vp.toList from by rw[Lib.toList_data];rfl,Hy]at H9;clear Hq ha hl h0 hY;by_cases e47:a=47
        · subst e47
          go_wp2_with fail;go_meet;exact hid ⟨by rw[H9];rfl,rfl⟩
        · have n47:¬(a:Int)=47:=by omega
          have n47b:=beqi n47;rw[decide_eq_false e47,Bool.false_or]at H9;cases b42 with
          |true=>
           go_wp2_with fail;go_meet;exact hid ⟨by rw[H9],rfl⟩
          |false=>
           go_wp2_with fail;go_meet;exact hid ⟨by rw[H9],rfl⟩
     case rest=>
      obtain⟨rfl,gj⟩:=hcut.out;subst gj;obtain⟨bm,hS⟩:∃b,vm.toList.isEmpty=b:=⟨_,rfl⟩;obtain⟨bs,hL⟩:∃b,vs.toList.isEmpty=b:=⟨_,rfl⟩;obtain⟨tr,Hs⟩:∃b,(l.drop i).all plainB=b:=⟨_,rfl⟩;rw[show(tx vm).isEmpty=bm from by rw[<-hS,Lib.toList_data];rfl,show(tx vs).isEmpty=bs from by rw[<-hL,Lib.toList_data];rfl,hY,Hs]at hX;rw[Hs]at H5;have hM:=hm.out wc hQ.out;have Ht:=hid hM;have r0:=hM.cell 0;have r1:=hM.cell 1;have r2:=hM.cell 2;have r3:=hM.cell 3;have r4:=hM.cell 4;have q0:=hM.frozen 0;have q1:=hM.frozen 1;have q2:=hM.frozen 2;have q3:=hM.frozen 3;have q4:=hM.frozen 4;simp only[List.getElem?_toArray,List.getElem?_cons_zero,List.getElem?_cons_succ]at r0 r1 r2 r3 r4;have HE:rb<W0.heap.size:=HX.out.lt;have Hu:=hid (show rb≠bx from by have:=hH.out;omega);clear hcut Hs hY hM HE;cases bm with
      |true=>
       have HD:=hid (hX.out);simp only[Bool.not_true,Bool.false_and]at HD;go_wp2_with fail;refine bodyPost_ret (res26 _ _ rb _ _ _ _ _ (.int .i64 112) rfl rfl (put5 Ht.out _ _ _ _ _)) rfl ⟨_,_,_,_,_,_,_,by rw[<-hC.out,HD.out];rfl,bel5 (h8.out _ hQ.out) (Nat.le_of_eq hD.out) _ _ _ _ _⟩
      |false=>
       cases bs with
       |true=>
        have HD:=hid (hX.out);simp only[Bool.not_true,Bool.false_and,Bool.and_false]at HD;go_wp2_with fail;refine bodyPost_ret (res26 _ _ rb _ _ _ _ _ (.int .i64 112) rfl rfl (put5 Ht.out _ _ _ _ _)) rfl ⟨_,_,_,_,_,_,_,by rw[<-hC.out,HD.out];rfl,bel5 (h8.out _ hQ.out) (Nat.le_of_eq hD.out) _ _ _ _ _⟩
       |false=>
        cases pb with
        |false=>
         have HD:=hid (hX.out);simp only[Bool.false_and,Bool.and_false]at HD;go_wp2_with fail;refine bodyPost_ret (res26 _ _ rb _ _ _ _ _ (.int .i64 112) rfl rfl (put5 Ht.out _ _ _ _ _)) rfl ⟨_,_,_,_,_,_,_,by rw[<-hC.out,HD.out];rfl,bel5 (h8.out _ hQ.out) (Nat.le_of_eq hD.out) _ _ _ _ _⟩
        |true=>
         cases tr with
         |false=>
          have HD:=hid (hX.out);simp only[Bool.false_and,Bool.and_false]at HD;rw[show trC false=112 from rfl]at H5;go_wp2_with (first
           |(go_at_call 54
             with_reducible refine Calls.mono (H5.out _ hQ.out) ?_
             rintro e w6 ⟨rfl,hZ⟩;have H0:=hid (hQ.out.trans (hZ.mono hQ.out.size));have hN:=hm.out w6 H0.out;have s0:=hN.cell 0;have s1:=hN.cell 1;have s2:=hN.cell 2;have s3:=hN.cell 3;have s4:=hN.cell 4;have z0:=hN.frozen 0;have z1:=hN.frozen 1;have z2:=hN.frozen 2;have z3:=hN.frozen 3;have z4:=hN.frozen 4;simp only[List.getElem?_toArray,List.getElem?_cons_zero,List.getElem?_cons_succ]at s0 s1 s2 s3 s4;have gk:=hid hN;clear hZ hN)
           |fail)
          refine bodyPost_ret (res26 _ _ rb _ _ _ _ _ (.int .i64 112) rfl rfl (put5 gk.out _ _ _ _ _)) rfl ⟨_,_,_,_,_,_,_,by rw[<-hC.out,HD.out];rfl,bel5 (h8.out _ H0.out) (Nat.le_of_eq hD.out) _ _ _ _ _⟩
         |true=>
          have HD:=hid (hX.out);simp only[Bool.not_false,Bool.true_and,Bool.and_true]at HD;rw[show trC true=0 from rfl]at H5;have gn:¬rb=bx:=Hu.out;have go:¬bx=rb:=λe=>Hu.out e.symm;go_wp2_with (first
           |(go_at_call 54
             with_reducible refine Calls.mono (H5.out _ hQ.out) ?_
             rintro e w6 ⟨rfl,hZ⟩;have H0:=hid (hQ.out.trans (hZ.mono hQ.out.size));have Hb:=hid (g8.out.below hZ g8.out.lt);clear hZ)
           |(go_at_call 55
             with_reducible refine Calls.mono (gh.out _ H0.out) ?_
             rintro e w7 ⟨v7,rfl,h7⟩;have g9:=hid (H0.out.trans (h7.out.2.mono H0.out.size));have hO:=hm.out w7 g9.out;have hV:=Hb.out.below h7.out.2 Hb.out.lt;obtain⟨A7,c7,rfl,_,_⟩:=h7.out.1.form;have s0:=hO.cell 0;have s1:=hO.cell 1;have s2:=hO.cell 2;have s3:=hO.cell 3;have s4:=hO.cell 4;have z0:=hO.frozen 0;have z1:=hO.frozen 1;have z2:=hO.frozen 2;have z3:=hO.frozen 3;have z4:=hO.frozen 4;have k0:=hV.cell 0;have k1:=hV.cell 1;have k2:=hV.cell 2;have k3:=hV.cell 3;have k4:=hV.cell 4;have kz4:=hV.frozen 4;simp only[List.getElem?_toArray,List.getElem?_cons_zero,List.getElem?_cons_succ]at s0 s1 s2 s3 s4 k0 k1 k2 k3 k4;have gl:=hid hO;clear h7 hO hV)
           |fail)
          refine bodyPost_ret (res26 _ _ rb _ _ _ _ _ (.int .i64 0) rfl rfl (put5 (gl.out.far (p:=⟨bx,4,none⟩) Hu.out _) _ _ _ _ _)) rfl ⟨_,_,_,_,_,_,_,by rw[<-hC.out,HD.out];rfl,bel5 ((h8.out _ g9.out).setCell (p:=⟨bx,4,none⟩) (by have:=hH.out;have:=HB.out.size;show w.heap.size<=bx;omega) _) (Nat.le_of_eq hD.out) _ _ _ _ _⟩
end Go.Proofs.YtkpppjhbmnfmkaaGreatDoor
