import Derived.Test.YtkpppjhbmnfmkaaGreatDoorFp
import Derived.Test.YtkpppjhbmnfmkaaGreatDoorJaa
set_option linter.unusedSimpArgs false
set_option linter.unusedVariables false
set_option maxHeartbeats 16000000
set_option maxRecDepth 100000
namespace Go.Proofs.YtkpppjhbmnfmkaaGreatDoor
open Lib (hid)
open Go.RowKit Go.Own Go.Own.Fr Go.Own.Im
theorem infSize:(Tryz.prog.info? 91).map (·.size)=some 18:=by kernel_rfl
theorem infC_one (i:Inf) (A A':Option Addr) (n n' c c':Nat):(infC i (.slice A n c) (.slice A' n' c')).all (·.oneCell')=true:=by
 simp[infC,Value.oneCell']
theorem rowOf_fl (t:Nat):(rowOf t).2.2<=255:=by
 unfold rowOf
 split<;>decide
theorem open_start (W:World) (t f s:Nat) (v:Value):∃W0:World,(W.alloc (.cells #[.int .i64 (t:Nat),.int .i64 (f:Nat),.int .i64 (s:Nat),v] 24)).alloc (.cells #[.int .i64 0,.int .i64 0,.int .i64 0,.bool false,.bool false,.bool false,.bool false,.bool false,.bool false,.int .i64 0,.int .i64 0,.int .i64 0,.int .i64 0,.int .i64 0,.int .i64 0,.int .i64 0,.slice none 0 0,.slice none 0 0] 91)=W0/\
 Below W.heap.size W W0/\W0.heap.size=W.heap.size+2/\Blk W0 W.heap.size 24 #[.int .i64 (t:Nat),.int .i64 (f:Nat),.int .i64 (s:Nat),v]/\Blk W0 (W.heap.size+1) 91 (infC {} (.slice none 0 0) (.slice none 0 0)):=by
 refine⟨_,rfl,((Below.refl _ _).alloc (Nat.le_refl _) _).alloc (by simp) _,by simp,(Blk.new W _ _).alloc _,?_⟩;have h:=Blk.new (W.alloc (.cells #[.int .i64 (t:Nat),.int .i64 (f:Nat),.int .i64 (s:Nat),v] 24)) 91 (infC {} (.slice none 0 0) (.slice none 0 0));rw[show(W.alloc (.cells #[.int .i64 (t:Nat),.int .i64 (f:Nat),.int .i64 (s:Nat),v] 24)).heap.size=W.heap.size+1 by simp]at h;exact h
theorem ew_base {w:World} {base base':Nat} {v:Value} {l:List (Nat×Nat)} (h:SetO w base v l) (hb:base'<=base):SetO w base' v l:=by
 rcases h.2 with⟨rfl,hl⟩|⟨g,cap,cur,rfl,h0,hh,hn,hm,hs,ht⟩
 · exact⟨h.1,.inl ⟨rfl,hl⟩⟩
 · exact⟨h.1,.inr ⟨g,cap,cur,rfl,Nat.le_trans hb h0,hh,hn,hm,hs,ht⟩⟩
structure OpF (W X:World) (gi r4 g3 g6 g8:Nat) (fr row cs:Array Value):Prop where
 i:Blk X gi 91 cs
 r:Blk X r4 184 row
 f:Blk X W.heap.size 24 fr
 z:Blk X (W.heap.size+1) 91 (infC {} (.slice none 0 0) (.slice none 0 0))
 e:ExS X g3 g6 g8
 b:Below W.heap.size W X
 n:gi=r4+1/\W.heap.size+2<=r4
theorem ExC.set {w:World} {g b:Nat} {n:Int} {f:Value} {cs:Array Value} (h:ExC w g n f) (hb:Blk w b 91 cs) (k:Nat) (v:Value):ExC (w.setCell ⟨b,k,none⟩ v) g n f:=
 ⟨h.1.far (h.1.apart hb (by decide)) v,h.2.far (h.2.apart hb (by decide)) v⟩
theorem OpF.put {W X:World} {gi r4 g3 g6 g8:Nat} {fr row cs:Array Value} (h:OpF W X gi r4 g3 g6 g8 fr row cs) (k:Nat) (v:Value):OpF W (X.setCell ⟨gi,k,none⟩ v) gi r4 g3 g6 g8 fr row (cs.setIfInBounds k v):=
 ⟨h.i.put k v,h.r.far (by have:=h.n;show r4≠gi;omega) v,h.f.far (by have:=h.n;show W.heap.size≠gi;omega) v,h.z.far (by have:=h.n;show W.heap.size+1≠gi;omega) v,
   ⟨h.e.1.set h.i k v,h.e.2.1.set h.i k v,h.e.2.2.set h.i k v⟩,h.b.setCell (p:=⟨gi,k,none⟩) (by have:=h.n;show W.heap.size<=gi;omega) v,h.n⟩
theorem open_any (t f s:Nat) (A:Option Addr) (n c B:Nat) (l:List UInt8) (W:World) (hr:Rd W B A n l) (hB:B<=W.heap.size) (ht:t<=255) (hf:f<=255) (hs:s<=2147483647) (hp:hasF t f 8=false)
 (hZ:∀(W':World) (g g3 g6 g8:Nat),Below W.heap.size W W'->ExS W' g3 g6 g8->Blk W' g 91 (infC (info0 t f s) (.slice none 0 0) (.slice none 0 0))->W.heap.size<=g->
   ∃K cap,rdV g3 g6 g8 t= .func (.func K) #[] cap/\Enters Tryz.prog K/\Calls Tryz.prog K (#[.pointer (some ⟨g,0,none⟩),.slice A n c]++cap) W' (RdPost W' g (info0 t f s) l)):
 Calls Tryz.prog 104 #[.agg #[.int .i64 (t:Nat),.int .i64 (f:Nat),.int .i64 (s:Nat),.slice A n c]] W (OpPost W t f s l):=by
 have h9:=hid hZ;have HP:=hid hp;have Hs:=hid (λw=>sort_any t w ht);clear hZ hp hr;go_enter Tryz.func104,Tryz.ntmps104;go_upto_region 1 with fail;obtain⟨W0,Ht,Hu,Hv,He,Hx⟩:=open_start W t f s (.slice A n c);rw[Ht];have Hy:=hid Hu;have HZ:=hid Hv;have Hg:=hid He;have Hh:=hid Hx;have c0:W0.cell? ⟨W.heap.size,0,none⟩=some (.int .i64 (t:Nat)):=He.cell 0;clear Ht Hu Hv He Hx;go_wp2_with fail;refine(Hs.out W0).mono ?_;rintro e W1 ⟨g3,g6,g8,rfl,hE,H1⟩;have HE:=hid hE;have H2:=hid H1;clear c0 hE H1;have H8:=hid (Hg.out.below H2.out Hg.out.lt);have H9:=hid (Hh.out.below H2.out Hh.out.lt);obtain⟨K1,cap1,Hi⟩:=rdV_form g3 g6 g8 t;obtain⟨K2,HB⟩:=wrV_form t;rw[Hi,HB];obtain⟨b1,H1⟩:∃b,(rowOf t).1=b:=⟨_,rfl⟩;obtain⟨b2,Hj⟩:∃b,(rowOf t).2.1=b:=⟨_,rfl⟩;obtain⟨n3,H4⟩:∃b,(rowOf t).2.2=b:=⟨_,rfl⟩;obtain⟨d9,Hl⟩:∃b,decide (t<=9)=b:=⟨_,rfl⟩;rw[H1,Hj,H4,Hl];have HQ:=hid (show(rowOf t).1=b1/\(rowOf t).2.1=b2/\(rowOf t).2.2=n3/\decide (t<=9)=d9/\rdV g3 g6 g8 t= .func (.func K1) #[] cap1 from⟨H1,Hj,H4,Hl,Hi⟩);clear H1 Hj H4 Hl Hi HB;go_upto_region 2 with fail;have hA:=hid (Blk.new W1 184 #[.bool b1,.bool b2,.int .i64 (n3:Nat),.func (.func K1) #[] cap1,.func (.func K2) #[] #[]]);have H5:=hid ((Hy.out.trans (H2.out.mono (by have:=HZ.out;omega))).alloc (by have:=H2.out.size;have:=HZ.out;omega) (.cells #[.bool b1,.bool b2,.int .i64 (n3:Nat),.func (.func K1) #[] cap1,.func (.func K2) #[] #[]] 184));have hJ:=hid (H8.out.alloc (.cells #[.bool b1,.bool b2,.int .i64 (n3:Nat),.func (.func K1) #[] cap1,.func (.func K2) #[] #[]] 184));have hY:=hid (H9.out.alloc (.cells #[.bool b1,.bool b2,.int .i64 (n3:Nat),.func (.func K1) #[] cap1,.func (.func K2) #[] #[]] 184));have Hm:=hid (HE.out.below ((Below.refl W1.heap.size W1).alloc (Nat.le_refl _) (.cells #[.bool b1,.bool b2,.int .i64 (n3:Nat),.func (.func K1) #[] cap1,.func (.func K2) #[] #[]] 184)));have Hb:=hid (show(W1.alloc (.cells #[.bool b1,.bool b2,.int .i64 (n3:Nat),.func (.func K1) #[] cap1,.func (.func K2) #[] #[]] 184)).heap.size=W1.heap.size+1/\W.heap.size+2<=W1.heap.size by
  refine⟨by simp,?_⟩;have:=H2.out.size;have:=HZ.out;omega)
 generalize W1.alloc (.cells #[.bool b1,.bool b2,.int .i64 (n3:Nat),.func (.func K1) #[] cap1,.func (.func K2) #[] #[]] 184)=W2 at hA H5 hJ hY Hm Hb ⊢;obtain⟨r4,HC⟩:∃r,W1.heap.size=r:=⟨_,rfl⟩;rw[HC]at hA Hb ⊢;clear HC H2 HE H8 H9 Hg Hh Hy HZ Hs;obtain⟨c0,c1,c2,c3⟩:W2.cell? ⟨W.heap.size,0,none⟩=some (.int .i64 (t:Nat))/\W2.cell? ⟨W.heap.size,1,none⟩=some (.int .i64 (f:Nat))/\W2.cell? ⟨W.heap.size,2,none⟩=some (.int .i64 (s:Nat))/\W2.cell? ⟨W.heap.size,3,none⟩=some (.slice A n c):=⟨hJ.out.cell 0,hJ.out.cell 1,hJ.out.cell 2,hJ.out.cell 3⟩;obtain⟨q0,q1,q2,q3⟩:W2.cell? ⟨r4,0,none⟩=some (.bool b1)/\W2.cell? ⟨r4,1,none⟩=some (.bool b2)/\W2.cell? ⟨r4,2,none⟩=some (.int .i64 (n3:Nat))/\W2.cell? ⟨r4,3,none⟩=some (.func (.func K1) #[] cap1):=⟨hA.out.cell 0,hA.out.cell 1,hA.out.cell 2,hA.out.cell 3⟩;go_upto_region 3 with(first
  |(refine wpList_rowPut _ rfl (.tmp 6) (.tmp 20) 91 rfl W2.heap.size 91 (infC {} (.slice none 0 0) (.slice none 0 0)) (infC {typ:=t,stream:=s} (.slice none 0 0) (.slice none 0 0)) rfl rfl (Blk.new W2 91 _) infSize rfl (infC_one _ _ _ _ _ _ _) ?_
    intro W3 HD HF;have HI:=hid HD;have hg:=grown_trans (World.grownBy_alloc W2 (.cells (infC {} (.slice none 0 0) (.slice none 0 0)) 91) (some W2.heap.size)) HF;have hM:=hid (H5.out.grown hg H5.out.size (λg e=>by injection e with e;have:=H5.out.size;omega));have ho:=hid (hJ.out.grown hg (λe=>by injection e with e;have:=hJ.out.lt;omega));have hC:=hid (hY.out.grown hg (λe=>by injection e with e;have:=hY.out.lt;omega));have hX:=hid (hA.out.grown hg (λe=>by injection e with e;have:=hA.out.lt;omega));have H3:=hid (show ExS W3 g3 g6 g8 from Hm.out.below ⟨hg.os,hg.tape,hg.output,hg.size,λi hi=>hg.block i hi (λe=>by injection e with e;omega)⟩);have hR:=hid (show W2.heap.size=r4+1/\W.heap.size+2<=r4 from Hb.out);clear HD HF hg)
  |fail)
 obtain⟨gi,HG⟩:∃r,W2.heap.size=r:=⟨_,rfl⟩;rw[HG]at HI hR ⊢;clear HG c0 c1 c2 c3 q0 q1 q2 q3 hJ hY hA H5 Hm Hb;obtain⟨c0,c1,c2,c3⟩:W3.cell? ⟨W.heap.size,0,none⟩=some (.int .i64 (t:Nat))/\W3.cell? ⟨W.heap.size,1,none⟩=some (.int .i64 (f:Nat))/\W3.cell? ⟨W.heap.size,2,none⟩=some (.int .i64 (s:Nat))/\W3.cell? ⟨W.heap.size,3,none⟩=some (.slice A n c):=⟨ho.out.cell 0,ho.out.cell 1,ho.out.cell 2,ho.out.cell 3⟩;obtain⟨q0,q1,q2,q3⟩:W3.cell? ⟨r4,0,none⟩=some (.bool b1)/\W3.cell? ⟨r4,1,none⟩=some (.bool b2)/\W3.cell? ⟨r4,2,none⟩=some (.int .i64 (n3:Nat))/\W3.cell? ⟨r4,3,none⟩=some (.func (.func K1) #[] cap1):=⟨hX.out.cell 0,hX.out.cell 1,hX.out.cell 2,hX.out.cell 3⟩;have H4:n3<=255:=by rw[<-HQ.out.2.2.1];exact rowOf_fl t
 have hq:=hid (λ(k:Nat) (hk:k<=255) (W':World) (h4:W'.cell? ⟨r4,2,none⟩=some (.int .i64 (n3:Nat))) (h1:W'.cell? ⟨W.heap.size,1,none⟩=some (.int .i64 (f:Nat)))=>has_any k n3 f r4 W.heap.size W' h4 h1 (by omega) (by omega) (by omega));clear H4;by_cases hu:(s=0/\b1=false)\/(s≠0/\b2=false)
 · have hL:=hid (show opn t f s l= .error (1,0)by
    obtain⟨e1,e2,_⟩:=HQ.out;unfold opn;rw[e1,e2,if_pos hu])
   have HH:W.heap.size+1<W3.heap.size:=hC.out.lt;by_cases Hc:s=0
   · obtain rfl:b1=false:=by rcases hu with h|h<;>simp_all
     subst Hc;clear hu;go_upto_region 4 with fail;go_wp2_with fail;refine(fault_any 1 0 _).mono ?_;rintro e W4 ⟨rfl,hw⟩;subst W4;go_wp2_with (first
      |(refine wpList_rowPut _ rfl (.tmp 2) (.tmp 39) 91 rfl (W.heap.size+1) 91 (infC {} (.slice none 0 0) (.slice none 0 0)) (infC {} (.slice none 0 0) (.slice none 0 0)) rfl rfl (hC.out.alloc _) infSize rfl (infC_one _ _ _ _ _ _ _) ?_
        intro W4 Hn H7)
      |fail)
     refine bodyPost_ret (results_open _ _ (W.heap.size+1) {} _ _ _ rfl rfl Hn) rfl ⟨?_,?_⟩
     · exact(hM.out.alloc hM.out.size _).grown H7 (by have:=hM.out.size;simp;omega) (λg e=>by injection e with e;omega)
     · rw[hL.out]
       refine⟨W3.heap.size,rfl,hM.out.size,?_⟩;exact(Blk.new W3 199 #[.int .i64 1,.int .i64 0]).grown H7 (λe=>by injection e with e;omega)
   · obtain rfl:b2=false:=by rcases hu with h|h<;>simp_all
     have Ha:¬((s:Int)=0):=by omega
     clear hu;go_upto_region 4 with fail;go_wp2_with fail;refine(fault_any 1 0 _).mono ?_;rintro e W4 ⟨rfl,hw⟩;subst W4;go_wp2_with (first
      |(refine wpList_rowPut _ rfl (.tmp 2) (.tmp 39) 91 rfl (W.heap.size+1) 91 (infC {} (.slice none 0 0) (.slice none 0 0)) (infC {} (.slice none 0 0) (.slice none 0 0)) rfl rfl (hC.out.alloc _) infSize rfl (infC_one _ _ _ _ _ _ _) ?_
        intro W4 Hn H7)
      |fail)
     refine bodyPost_ret (results_open _ _ (W.heap.size+1) {} _ _ _ rfl rfl Hn) rfl ⟨?_,?_⟩
     · exact(hM.out.alloc hM.out.size _).grown H7 (by have:=hM.out.size;simp;omega) (λg e=>by injection e with e;omega)
     · rw[hL.out]
       refine⟨W3.heap.size,rfl,hM.out.size,?_⟩;exact(Blk.new W3 199 #[.int .i64 1,.int .i64 0]).grown H7 (λe=>by injection e with e;omega)
 · have Ho:(n3&&& f&&& 8 != 0)=false:=by
    have h:=HP.out;unfold hasF at h
    rwa [HQ.out.2.2.1]at h
   obtain⟨e4,Hp⟩:∃b,(n3&&& f&&& 4 != 0)=b:=⟨_,rfl⟩;obtain⟨e32,H0⟩:∃b,(n3&&& f&&& 32 != 0)=b:=⟨_,rfl⟩;obtain⟨e1,Hq⟩:∃b,(n3&&& f&&& 1 != 0)=b:=⟨_,rfl⟩;have hN:=hid (hq.out 4 (by omega));have hO:=hid (hq.out 8 (by omega));have hc:=hid (hq.out 32 (by omega));have hP:=hid (hq.out 1 (by omega));rw[Hp]at hN;rw[Ho]at hO;rw[H0]at hc;rw[Hq]at hP;have hQ:=hid (show info0 t f s={typ:=t,stream:=s,flags:=if d9=true then 0 else f,endHeads:=e4,padded:=false,prio:=e32,ack:=b1&&e1,endd:= !b1&&e1}by
    obtain⟨r1,_,r3,r4,_⟩:=HQ.out;unfold info0 hasF;rw[r1,r3,Hp,Ho,H0,Hq,<-r4];simp)
   have hL:=hid (show opn t f s l=rd (info0 t f s) l by
    obtain⟨r1,r2,_⟩:=HQ.out;unfold opn;rw[r1,r2,if_neg hu,HP.out];simp)
   clear Ho Hp H0 Hq;have HK:∀(fn:Fn) (first cap:Array Value) (w:World),(Instr.makeFunc fn first cap).run Tryz.prog w= .ok (.func fn first cap) w:=λ_ _ _ _=>rfl;have g1:W3.cell? ⟨gi,1,none⟩=some (.int .i64 0):=HI.out.cell 1;have g3':W3.cell? ⟨gi,3,none⟩=some (.bool false):=HI.out.cell 3;have g4:W3.cell? ⟨gi,4,none⟩=some (.bool false):=HI.out.cell 4;have g5:W3.cell? ⟨gi,5,none⟩=some (.bool false):=HI.out.cell 5;have g6':W3.cell? ⟨gi,6,none⟩=some (.bool false):=HI.out.cell 6;have g7:W3.cell? ⟨gi,7,none⟩=some (.bool false):=HI.out.cell 7;have f1:=HI.out.frozen 1;have f3:=HI.out.frozen 3;have f4:=HI.out.frozen 4;have f5:=HI.out.frozen 5;have f6:=HI.out.frozen 6;have f7:=HI.out.frozen 7;have n1:¬W.heap.size=gi:=by have:=hR.out;omega
   have n2:¬r4=gi:=by have:=hR.out;omega
   have n1':¬gi=W.heap.size:=by have:=hR.out;omega
   have n2':¬gi=r4:=by have:=hR.out;omega
   by_cases Hc:s=0
   · obtain rfl:b1=true:=by
      rcases b1 with _|_
      · exact absurd (.inl ⟨Hc,rfl⟩) hu
      · rfl
     have Ha:(s:Int)=0:=by omega
     clear hu;rcases d9 with _|_
     · have hS:=hid (show OpF W W3 gi r4 g3 g6 g8 _ _ _ from⟨HI.out,hX.out,ho.out,hC.out,H3.out,hM.out,hR.out⟩)
       have h6:=hid (hS.out.put 1 (.int .i64 (f:Nat)));go_wp2_with fail;refine(hN.out _ (h6.out.r.cell 2) (h6.out.f.cell 1)).mono ?_;rintro e w' ⟨rfl,hw⟩;subst w';go_wp2_with fail;refine(hO.out _ (h6.out.r.cell 2) (h6.out.f.cell 1)).mono ?_;rintro e w' ⟨rfl,hw⟩;subst w';go_wp2_with fail;refine(hc.out _ (h6.out.r.cell 2) (h6.out.f.cell 1)).mono ?_;rintro e w' ⟨rfl,hw⟩;subst w';have hd:=hid (((h6.out.put 4 (.bool e4)).put 6 (.bool false)).put 7 (.bool e32));go_wp2_with fail;refine(hP.out _ (hd.out.r.cell 2) (hd.out.f.cell 1)).mono ?_;rintro e w' ⟨rfl,hw⟩;subst w';have h0:=hid (hd.out.put 5 (.bool e1));obtain⟨K,cap,hK,hE,h3⟩:=h9.out _ gi g3 g6 g8 h0.out.b h0.out.e (by rw[hQ.out];exact h0.out.i) (by have:=h0.out.n;omega);have hT:=HQ.out.2.2.2.2.symm.trans hK;injection hT with he _ hU
       injection he with he
       subst he hU;have hE:∀args w,(callFunc K1 args).run Tryz.prog w= .ok (.enter K1 args) w:=hE;have h5:=hid h3;clear h3 hK;go_wp2_with fail;refine h5.out.mono ?_;intro e w' h;obtain⟨hg,hm⟩:=h;have hD:=hid (h0.out.z.grown hg (λe=>by injection e with e;have:=h0.out.n;omega));have hb:=hid (h0.out.b.grown hg h0.out.b.size (λg e=>by injection e with e;have:=h0.out.n;omega));clear hg h5 h9 hP hN hO hc hq g1 g3' g4 g5 g6' g7 f1 f3 f4 f5 f6 f7;cases h7:rd (info0 t f s) l with
       |ok j=>
        rw[h7]at hm;obtain⟨rfl,sv,dv,hF,hh,hj⟩:=hm;obtain⟨A5,c5,rfl,_,_⟩:=hh.form;obtain⟨A6,c6,rfl,_,_,_⟩:=hj.form;have hV:=hid hF;have hG:=hid hh;have hH:=hid hj;have hl:=hid h7;clear hF hh hj h7;go_wp2_with (first
         |(refine wpList_rowGet _ rfl (.tmp 6) 91 rfl gi 91 _ rfl hV.out _ Tryz.underlying91 rfl infSize ?_)
         |(refine wpList_rowPut _ rfl (.tmp 2) (.tmp 100) 91 rfl (W.heap.size+1) 91 (infC {} (.slice none 0 0) (.slice none 0 0)) _ rfl rfl hD.out infSize rfl (infC_one _ _ _ _ _ _ _) ?_
           intro W5 hn h8)
         |fail)
        refine bodyPost_ret (results_open _ _ (W.heap.size+1) j _ _ _ rfl rfl hn) rfl ⟨hb.out.grown h8 hb.out.size (λg e=>by injection e with e;omega),?_⟩;rw[hL.out,hl.out];refine⟨_,_,rfl,ew_base (hG.out.grown h8 (.inr λe=>?_)) h0.out.b.size,(hH.out.grown h8 (.inr λe=>?_)).base h0.out.b.size⟩
        · have h1:=(hG.out.lt _ e).1
          have h2:=h0.out.z.lt;omega
        · have h1:=(hH.out.lt e).2
          have h2:=h0.out.z.lt;omega
       |error x=>
        rw[h7]at hm;obtain⟨a,rfl,ha,hI⟩:=hm;have hl:=hid h7;have hW:=hid hI;have HA:=hid ha;clear h7 hI ha;go_wp2_with (first
         |(refine wpList_rowPut _ rfl (.tmp 2) (.tmp 98) 91 rfl (W.heap.size+1) 91 (infC {} (.slice none 0 0) (.slice none 0 0)) (infC {} (.slice none 0 0) (.slice none 0 0)) rfl rfl hD.out infSize rfl (infC_one _ _ _ _ _ _ _) ?_
           intro W5 hn h8)
         |fail)
        refine bodyPost_ret (results_open _ _ (W.heap.size+1) {} _ _ _ rfl rfl hn) rfl ⟨hb.out.grown h8 hb.out.size (λg e=>by injection e with e;omega),?_⟩;rw[hL.out,hl.out];exact⟨a,rfl,Nat.le_trans h0.out.b.size HA.out,hW.out.grown h8 (λe=>by injection e with e;have:=HA.out;have:=h0.out.z.lt;omega)⟩
     · have hS:=hid (show OpF W W3 gi r4 g3 g6 g8 _ _ _ from⟨HI.out,hX.out,ho.out,hC.out,H3.out,hM.out,hR.out⟩)
       have h6:=hS;go_wp2_with fail;refine(hN.out _ (h6.out.r.cell 2) (h6.out.f.cell 1)).mono ?_;rintro e w' ⟨rfl,hw⟩;subst w';go_wp2_with fail;refine(hO.out _ (h6.out.r.cell 2) (h6.out.f.cell 1)).mono ?_;rintro e w' ⟨rfl,hw⟩;subst w';go_wp2_with fail;refine(hc.out _ (h6.out.r.cell 2) (h6.out.f.cell 1)).mono ?_;rintro e w' ⟨rfl,hw⟩;subst w';have hd:=hid (((h6.out.put 4 (.bool e4)).put 6 (.bool false)).put 7 (.bool e32));go_wp2_with fail;refine(hP.out _ (hd.out.r.cell 2) (hd.out.f.cell 1)).mono ?_;rintro e w' ⟨rfl,hw⟩;subst w';have h0:=hid (hd.out.put 5 (.bool e1));obtain⟨K,cap,hK,hE,h3⟩:=h9.out _ gi g3 g6 g8 h0.out.b h0.out.e (by rw[hQ.out];exact h0.out.i) (by have:=h0.out.n;omega);have hT:=HQ.out.2.2.2.2.symm.trans hK;injection hT with he _ hU
       injection he with he
       subst he hU;have hE:∀args w,(callFunc K1 args).run Tryz.prog w= .ok (.enter K1 args) w:=hE;have h5:=hid h3;clear h3 hK;go_wp2_with fail;refine h5.out.mono ?_;intro e w' h;obtain⟨hg,hm⟩:=h;have hD:=hid (h0.out.z.grown hg (λe=>by injection e with e;have:=h0.out.n;omega));have hb:=hid (h0.out.b.grown hg h0.out.b.size (λg e=>by injection e with e;have:=h0.out.n;omega));clear hg h5 h9 hP hN hO hc hq g1 g3' g4 g5 g6' g7 f1 f3 f4 f5 f6 f7;cases h7:rd (info0 t f s) l with
       |ok j=>
        rw[h7]at hm;obtain⟨rfl,sv,dv,hF,hh,hj⟩:=hm;obtain⟨A5,c5,rfl,_,_⟩:=hh.form;obtain⟨A6,c6,rfl,_,_,_⟩:=hj.form;have hV:=hid hF;have hG:=hid hh;have hH:=hid hj;have hl:=hid h7;clear hF hh hj h7;go_wp2_with (first
         |(refine wpList_rowGet _ rfl (.tmp 6) 91 rfl gi 91 _ rfl hV.out _ Tryz.underlying91 rfl infSize ?_)
         |(refine wpList_rowPut _ rfl (.tmp 2) (.tmp 100) 91 rfl (W.heap.size+1) 91 (infC {} (.slice none 0 0) (.slice none 0 0)) _ rfl rfl hD.out infSize rfl (infC_one _ _ _ _ _ _ _) ?_
           intro W5 hn h8)
         |fail)
        refine bodyPost_ret (results_open _ _ (W.heap.size+1) j _ _ _ rfl rfl hn) rfl ⟨hb.out.grown h8 hb.out.size (λg e=>by injection e with e;omega),?_⟩;rw[hL.out,hl.out];refine⟨_,_,rfl,ew_base (hG.out.grown h8 (.inr λe=>?_)) h0.out.b.size,(hH.out.grown h8 (.inr λe=>?_)).base h0.out.b.size⟩
        · have h1:=(hG.out.lt _ e).1
          have h2:=h0.out.z.lt;omega
        · have h1:=(hH.out.lt e).2
          have h2:=h0.out.z.lt;omega
       |error x=>
        rw[h7]at hm;obtain⟨a,rfl,ha,hI⟩:=hm;have hl:=hid h7;have hW:=hid hI;have HA:=hid ha;clear h7 hI ha;go_wp2_with (first
         |(refine wpList_rowPut _ rfl (.tmp 2) (.tmp 98) 91 rfl (W.heap.size+1) 91 (infC {} (.slice none 0 0) (.slice none 0 0)) (infC {} (.slice none 0 0) (.slice none 0 0)) rfl rfl hD.out infSize rfl (infC_one _ _ _ _ _ _ _) ?_
           intro W5 hn h8)
         |fail)
        refine bodyPost_ret (results_open _ _ (W.heap.size+1) {} _ _ _ rfl rfl hn) rfl ⟨hb.out.grown h8 hb.out.size (λg e=>by injection e with e;omega),?_⟩;rw[hL.out,hl.out];exact⟨a,rfl,Nat.le_trans h0.out.b.size HA.out,hW.out.grown h8 (λe=>by injection e with e;have:=HA.out;have:=h0.out.z.lt;omega)⟩
   · obtain rfl:b2=true:=by
      rcases b2 with _|_
      · exact absurd (.inr ⟨Hc,rfl⟩) hu
      · rfl
     have Ha:¬(s:Int)=0:=by omega
     clear hu;rcases b1 with _|_
     · rcases d9 with _|_
       · have hS:=hid (show OpF W W3 gi r4 g3 g6 g8 _ _ _ from⟨HI.out,hX.out,ho.out,hC.out,H3.out,hM.out,hR.out⟩)
         have h6:=hid (hS.out.put 1 (.int .i64 (f:Nat)));go_wp2_with fail;refine(hN.out _ (h6.out.r.cell 2) (h6.out.f.cell 1)).mono ?_;rintro e w' ⟨rfl,hw⟩;subst w';go_wp2_with fail;refine(hO.out _ (h6.out.r.cell 2) (h6.out.f.cell 1)).mono ?_;rintro e w' ⟨rfl,hw⟩;subst w';go_wp2_with fail;refine(hc.out _ (h6.out.r.cell 2) (h6.out.f.cell 1)).mono ?_;rintro e w' ⟨rfl,hw⟩;subst w';have hd:=hid (((h6.out.put 4 (.bool e4)).put 6 (.bool false)).put 7 (.bool e32));go_wp2_with fail;refine(hP.out _ (hd.out.r.cell 2) (hd.out.f.cell 1)).mono ?_;rintro e w' ⟨rfl,hw⟩;subst w';have h0:=hid (hd.out.put 3 (.bool e1));obtain⟨K,cap,hK,hE,h3⟩:=h9.out _ gi g3 g6 g8 h0.out.b h0.out.e (by rw[hQ.out];exact h0.out.i) (by have:=h0.out.n;omega);have hT:=HQ.out.2.2.2.2.symm.trans hK;injection hT with he _ hU
         injection he with he
         subst he hU;have hE:∀args w,(callFunc K1 args).run Tryz.prog w= .ok (.enter K1 args) w:=hE;have h5:=hid h3;clear h3 hK;go_wp2_with fail;refine h5.out.mono ?_;intro e w' h;obtain⟨hg,hm⟩:=h;have hD:=hid (h0.out.z.grown hg (λe=>by injection e with e;have:=h0.out.n;omega));have hb:=hid (h0.out.b.grown hg h0.out.b.size (λg e=>by injection e with e;have:=h0.out.n;omega));clear hg h5 h9 hP hN hO hc hq g1 g3' g4 g5 g6' g7 f1 f3 f4 f5 f6 f7;cases h7:rd (info0 t f s) l with
         |ok j=>
          rw[h7]at hm;obtain⟨rfl,sv,dv,hF,hh,hj⟩:=hm;obtain⟨A5,c5,rfl,_,_⟩:=hh.form;obtain⟨A6,c6,rfl,_,_,_⟩:=hj.form;have hV:=hid hF;have hG:=hid hh;have hH:=hid hj;have hl:=hid h7;clear hF hh hj h7;go_wp2_with (first
           |(refine wpList_rowGet _ rfl (.tmp 6) 91 rfl gi 91 _ rfl hV.out _ Tryz.underlying91 rfl infSize ?_)
           |(refine wpList_rowPut _ rfl (.tmp 2) (.tmp 100) 91 rfl (W.heap.size+1) 91 (infC {} (.slice none 0 0) (.slice none 0 0)) _ rfl rfl hD.out infSize rfl (infC_one _ _ _ _ _ _ _) ?_
             intro W5 hn h8)
           |fail)
          refine bodyPost_ret (results_open _ _ (W.heap.size+1) j _ _ _ rfl rfl hn) rfl ⟨hb.out.grown h8 hb.out.size (λg e=>by injection e with e;omega),?_⟩;rw[hL.out,hl.out];refine⟨_,_,rfl,ew_base (hG.out.grown h8 (.inr λe=>?_)) h0.out.b.size,(hH.out.grown h8 (.inr λe=>?_)).base h0.out.b.size⟩
          · have h1:=(hG.out.lt _ e).1
            have h2:=h0.out.z.lt;omega
          · have h1:=(hH.out.lt e).2
            have h2:=h0.out.z.lt;omega
         |error x=>
          rw[h7]at hm;obtain⟨a,rfl,ha,hI⟩:=hm;have hl:=hid h7;have hW:=hid hI;have HA:=hid ha;clear h7 hI ha;go_wp2_with (first
           |(refine wpList_rowPut _ rfl (.tmp 2) (.tmp 98) 91 rfl (W.heap.size+1) 91 (infC {} (.slice none 0 0) (.slice none 0 0)) (infC {} (.slice none 0 0) (.slice none 0 0)) rfl rfl hD.out infSize rfl (infC_one _ _ _ _ _ _ _) ?_
             intro W5 hn h8)
           |fail)
          refine bodyPost_ret (results_open _ _ (W.heap.size+1) {} _ _ _ rfl rfl hn) rfl ⟨hb.out.grown h8 hb.out.size (λg e=>by injection e with e;omega),?_⟩;rw[hL.out,hl.out];exact⟨a,rfl,Nat.le_trans h0.out.b.size HA.out,hW.out.grown h8 (λe=>by injection e with e;have:=HA.out;have:=h0.out.z.lt;omega)⟩
       · have hS:=hid (show OpF W W3 gi r4 g3 g6 g8 _ _ _ from⟨HI.out,hX.out,ho.out,hC.out,H3.out,hM.out,hR.out⟩)
         have h6:=hS;go_wp2_with fail;refine(hN.out _ (h6.out.r.cell 2) (h6.out.f.cell 1)).mono ?_;rintro e w' ⟨rfl,hw⟩;subst w';go_wp2_with fail;refine(hO.out _ (h6.out.r.cell 2) (h6.out.f.cell 1)).mono ?_;rintro e w' ⟨rfl,hw⟩;subst w';go_wp2_with fail;refine(hc.out _ (h6.out.r.cell 2) (h6.out.f.cell 1)).mono ?_;rintro e w' ⟨rfl,hw⟩;subst w';have hd:=hid (((h6.out.put 4 (.bool e4)).put 6 (.bool false)).put 7 (.bool e32));go_wp2_with fail;refine(hP.out _ (hd.out.r.cell 2) (hd.out.f.cell 1)).mono ?_;rintro e w' ⟨rfl,hw⟩;subst w';have h0:=hid (hd.out.put 3 (.bool e1));obtain⟨K,cap,hK,hE,h3⟩:=h9.out _ gi g3 g6 g8 h0.out.b h0.out.e (by rw[hQ.out];exact h0.out.i) (by have:=h0.out.n;omega);have hT:=HQ.out.2.2.2.2.symm.trans hK;injection hT with he _ hU
         injection he with he
         subst he hU;have hE:∀args w,(callFunc K1 args).run Tryz.prog w= .ok (.enter K1 args) w:=hE;have h5:=hid h3;clear h3 hK;go_wp2_with fail;refine h5.out.mono ?_;intro e w' h;obtain⟨hg,hm⟩:=h;have hD:=hid (h0.out.z.grown hg (λe=>by injection e with e;have:=h0.out.n;omega));have hb:=hid (h0.out.b.grown hg h0.out.b.size (λg e=>by injection e with e;have:=h0.out.n;omega));clear hg h5 h9 hP hN hO hc hq g1 g3' g4 g5 g6' g7 f1 f3 f4 f5 f6 f7;cases h7:rd (info0 t f s) l with
         |ok j=>
          rw[h7]at hm;obtain⟨rfl,sv,dv,hF,hh,hj⟩:=hm;obtain⟨A5,c5,rfl,_,_⟩:=hh.form;obtain⟨A6,c6,rfl,_,_,_⟩:=hj.form;have hV:=hid hF;have hG:=hid hh;have hH:=hid hj;have hl:=hid h7;clear hF hh hj h7;go_wp2_with (first
           |(refine wpList_rowGet _ rfl (.tmp 6) 91 rfl gi 91 _ rfl hV.out _ Tryz.underlying91 rfl infSize ?_)
           |(refine wpList_rowPut _ rfl (.tmp 2) (.tmp 100) 91 rfl (W.heap.size+1) 91 (infC {} (.slice none 0 0) (.slice none 0 0)) _ rfl rfl hD.out infSize rfl (infC_one _ _ _ _ _ _ _) ?_
             intro W5 hn h8)
           |fail)
          refine bodyPost_ret (results_open _ _ (W.heap.size+1) j _ _ _ rfl rfl hn) rfl ⟨hb.out.grown h8 hb.out.size (λg e=>by injection e with e;omega),?_⟩;rw[hL.out,hl.out];refine⟨_,_,rfl,ew_base (hG.out.grown h8 (.inr λe=>?_)) h0.out.b.size,(hH.out.grown h8 (.inr λe=>?_)).base h0.out.b.size⟩
          · have h1:=(hG.out.lt _ e).1
            have h2:=h0.out.z.lt;omega
          · have h1:=(hH.out.lt e).2
            have h2:=h0.out.z.lt;omega
         |error x=>
          rw[h7]at hm;obtain⟨a,rfl,ha,hI⟩:=hm;have hl:=hid h7;have hW:=hid hI;have HA:=hid ha;clear h7 hI ha;go_wp2_with (first
           |(refine wpList_rowPut _ rfl (.tmp 2) (.tmp 98) 91 rfl (W.heap.size+1) 91 (infC {} (.slice none 0 0) (.slice none 0 0)) (infC {} (.slice none 0 0) (.slice none 0 0)) rfl rfl hD.out infSize rfl (infC_one _ _ _ _ _ _ _) ?_
             intro W5 hn h8)
           |fail)
          refine bodyPost_ret (results_open _ _ (W.heap.size+1) {} _ _ _ rfl rfl hn) rfl ⟨hb.out.grown h8 hb.out.size (λg e=>by injection e with e;omega),?_⟩;rw[hL.out,hl.out];exact⟨a,rfl,Nat.le_trans h0.out.b.size HA.out,hW.out.grown h8 (λe=>by injection e with e;have:=HA.out;have:=h0.out.z.lt;omega)⟩
     · rcases d9 with _|_
       · have hS:=hid (show OpF W W3 gi r4 g3 g6 g8 _ _ _ from⟨HI.out,hX.out,ho.out,hC.out,H3.out,hM.out,hR.out⟩)
         have h6:=hid (hS.out.put 1 (.int .i64 (f:Nat)));go_wp2_with fail;refine(hN.out _ (h6.out.r.cell 2) (h6.out.f.cell 1)).mono ?_;rintro e w' ⟨rfl,hw⟩;subst w';go_wp2_with fail;refine(hO.out _ (h6.out.r.cell 2) (h6.out.f.cell 1)).mono ?_;rintro e w' ⟨rfl,hw⟩;subst w';go_wp2_with fail;refine(hc.out _ (h6.out.r.cell 2) (h6.out.f.cell 1)).mono ?_;rintro e w' ⟨rfl,hw⟩;subst w';have hd:=hid (((h6.out.put 4 (.bool e4)).put 6 (.bool false)).put 7 (.bool e32));go_wp2_with fail;refine(hP.out _ (hd.out.r.cell 2) (hd.out.f.cell 1)).mono ?_;rintro e w' ⟨rfl,hw⟩;subst w';have h0:=hid (hd.out.put 5 (.bool e1));obtain⟨K,cap,hK,hE,h3⟩:=h9.out _ gi g3 g6 g8 h0.out.b h0.out.e (by rw[hQ.out];exact h0.out.i) (by have:=h0.out.n;omega);have hT:=HQ.out.2.2.2.2.symm.trans hK;injection hT with he _ hU
         injection he with he
         subst he hU;have hE:∀args w,(callFunc K1 args).run Tryz.prog w= .ok (.enter K1 args) w:=hE;have h5:=hid h3;clear h3 hK;go_wp2_with fail;refine h5.out.mono ?_;intro e w' h;obtain⟨hg,hm⟩:=h;have hD:=hid (h0.out.z.grown hg (λe=>by injection e with e;have:=h0.out.n;omega));have hb:=hid (h0.out.b.grown hg h0.out.b.size (λg e=>by injection e with e;have:=h0.out.n;omega));clear hg h5 h9 hP hN hO hc hq g1 g3' g4 g5 g6' g7 f1 f3 f4 f5 f6 f7;cases h7:rd (info0 t f s) l with
         |ok j=>
          rw[h7]at hm;obtain⟨rfl,sv,dv,hF,hh,hj⟩:=hm;obtain⟨A5,c5,rfl,_,_⟩:=hh.form;obtain⟨A6,c6,rfl,_,_,_⟩:=hj.form;have hV:=hid hF;have hG:=hid hh;have hH:=hid hj;have hl:=hid h7;clear hF hh hj h7;go_wp2_with (first
           |(refine wpList_rowGet _ rfl (.tmp 6) 91 rfl gi 91 _ rfl hV.out _ Tryz.underlying91 rfl infSize ?_)
           |(refine wpList_rowPut _ rfl (.tmp 2) (.tmp 100) 91 rfl (W.heap.size+1) 91 (infC {} (.slice none 0 0) (.slice none 0 0)) _ rfl rfl hD.out infSize rfl (infC_one _ _ _ _ _ _ _) ?_
             intro W5 hn h8)
           |fail)
          refine bodyPost_ret (results_open _ _ (W.heap.size+1) j _ _ _ rfl rfl hn) rfl ⟨hb.out.grown h8 hb.out.size (λg e=>by injection e with e;omega),?_⟩;rw[hL.out,hl.out];refine⟨_,_,rfl,ew_base (hG.out.grown h8 (.inr λe=>?_)) h0.out.b.size,(hH.out.grown h8 (.inr λe=>?_)).base h0.out.b.size⟩
          · have h1:=(hG.out.lt _ e).1
            have h2:=h0.out.z.lt;omega
          · have h1:=(hH.out.lt e).2
            have h2:=h0.out.z.lt;omega
         |error x=>
          rw[h7]at hm;obtain⟨a,rfl,ha,hI⟩:=hm;have hl:=hid h7;have hW:=hid hI;have HA:=hid ha;clear h7 hI ha;go_wp2_with (first
           |(refine wpList_rowPut _ rfl (.tmp 2) (.tmp 98) 91 rfl (W.heap.size+1) 91 (infC {} (.slice none 0 0) (.slice none 0 0)) (infC {} (.slice none 0 0) (.slice none 0 0)) rfl rfl hD.out infSize rfl (infC_one _ _ _ _ _ _ _) ?_
             intro W5 hn h8)
           |fail)
          refine bodyPost_ret (results_open _ _ (W.heap.size+1) {} _ _ _ rfl rfl hn) rfl ⟨hb.out.grown h8 hb.out.size (λg e=>by injection e with e;omega),?_⟩;rw[hL.out,hl.out];exact⟨a,rfl,Nat.le_trans h0.out.b.size HA.out,hW.out.grown h8 (λe=>by injection e with e;have:=HA.out;have:=h0.out.z.lt;omega)⟩
       · have hS:=hid (show OpF W W3 gi r4 g3 g6 g8 _ _ _ from⟨HI.out,hX.out,ho.out,hC.out,H3.out,hM.out,hR.out⟩)
         have h6:=hS;go_wp2_with fail;refine(hN.out _ (h6.out.r.cell 2) (h6.out.f.cell 1)).mono ?_;rintro e w' ⟨rfl,hw⟩;subst w';go_wp2_with fail;refine(hO.out _ (h6.out.r.cell 2) (h6.out.f.cell 1)).mono ?_;rintro e w' ⟨rfl,hw⟩;subst w';go_wp2_with fail;refine(hc.out _ (h6.out.r.cell 2) (h6.out.f.cell 1)).mono ?_;rintro e w' ⟨rfl,hw⟩;subst w';have hd:=hid (((h6.out.put 4 (.bool e4)).put 6 (.bool false)).put 7 (.bool e32));go_wp2_with fail;refine(hP.out _ (hd.out.r.cell 2) (hd.out.f.cell 1)).mono ?_;rintro e w' ⟨rfl,hw⟩;subst w';have h0:=hid (hd.out.put 5 (.bool e1));obtain⟨K,cap,hK,hE,h3⟩:=h9.out _ gi g3 g6 g8 h0.out.b h0.out.e (by rw[hQ.out];exact h0.out.i) (by have:=h0.out.n;omega);have hT:=HQ.out.2.2.2.2.symm.trans hK;injection hT with he _ hU
         injection he with he
         subst he hU;have hE:∀args w,(callFunc K1 args).run Tryz.prog w= .ok (.enter K1 args) w:=hE;have h5:=hid h3;clear h3 hK;go_wp2_with fail;refine h5.out.mono ?_;intro e w' h;obtain⟨hg,hm⟩:=h;have hD:=hid (h0.out.z.grown hg (λe=>by injection e with e;have:=h0.out.n;omega));have hb:=hid (h0.out.b.grown hg h0.out.b.size (λg e=>by injection e with e;have:=h0.out.n;omega));clear hg h5 h9 hP hN hO hc hq g1 g3' g4 g5 g6' g7 f1 f3 f4 f5 f6 f7;cases h7:rd (info0 t f s) l with
         |ok j=>
          rw[h7]at hm;obtain⟨rfl,sv,dv,hF,hh,hj⟩:=hm;obtain⟨A5,c5,rfl,_,_⟩:=hh.form;obtain⟨A6,c6,rfl,_,_,_⟩:=hj.form;have hV:=hid hF;have hG:=hid hh;have hH:=hid hj;have hl:=hid h7;clear hF hh hj h7;go_wp2_with (first
           |(refine wpList_rowGet _ rfl (.tmp 6) 91 rfl gi 91 _ rfl hV.out _ Tryz.underlying91 rfl infSize ?_)
           |(refine wpList_rowPut _ rfl (.tmp 2) (.tmp 100) 91 rfl (W.heap.size+1) 91 (infC {} (.slice none 0 0) (.slice none 0 0)) _ rfl rfl hD.out infSize rfl (infC_one _ _ _ _ _ _ _) ?_
             intro W5 hn h8)
           |fail)
          refine bodyPost_ret (results_open _ _ (W.heap.size+1) j _ _ _ rfl rfl hn) rfl ⟨hb.out.grown h8 hb.out.size (λg e=>by injection e with e;omega),?_⟩;rw[hL.out,hl.out];refine⟨_,_,rfl,ew_base (hG.out.grown h8 (.inr λe=>?_)) h0.out.b.size,(hH.out.grown h8 (.inr λe=>?_)).base h0.out.b.size⟩
          · have h1:=(hG.out.lt _ e).1
            have h2:=h0.out.z.lt;omega
          · have h1:=(hH.out.lt e).2
            have h2:=h0.out.z.lt;omega
         |error x=>
          rw[h7]at hm;obtain⟨a,rfl,ha,hI⟩:=hm;have hl:=hid h7;have hW:=hid hI;have HA:=hid ha;clear h7 hI ha;go_wp2_with (first
           |(refine wpList_rowPut _ rfl (.tmp 2) (.tmp 98) 91 rfl (W.heap.size+1) 91 (infC {} (.slice none 0 0) (.slice none 0 0)) (infC {} (.slice none 0 0) (.slice none 0 0)) rfl rfl hD.out infSize rfl (infC_one _ _ _ _ _ _ _) ?_
             intro W5 hn h8)
           |fail)
          refine bodyPost_ret (results_open _ _ (W.heap.size+1) {} _ _ _ rfl rfl hn) rfl ⟨hb.out.grown h8 hb.out.size (λg e=>by injection e with e;omega),?_⟩;rw[hL.out,hl.out];exact⟨a,rfl,Nat.le_trans h0.out.b.size HA.out,hW.out.grown h8 (λe=>by injection e with e;have:=HA.out;have:=h0.out.z.lt;omega)⟩
end Go.Proofs.YtkpppjhbmnfmkaaGreatDoor
