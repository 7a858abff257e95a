/-
  
  
  
-/
import Derived.Test.YtkpppjhbmnfmkaaGreatDoorFq
import Derived.Test.YtkpppjhbmnfmkaaGreatDoorJab
set_option linter.unusedSimpArgs false
set_option linter.unusedVariables false
section
set_option maxHeartbeats 1000000
namespace Go.Proofs.YtkpppjhbmnfmkaaGreatDoor
open Go.RowKit Go.Own Go.Own.Fr Go.Own.Im
theorem enter_rest:Enters Tryz.prog 175:=enters_of Tryz.func175 (by kernel_rfl) rfl
theorem enter_heads:Enters Tryz.prog 177:=enters_of Tryz.func177 (by kernel_rfl) rfl
theorem enter_away:Enters Tryz.prog 189:=enters_of Tryz.func189 (by kernel_rfl) rfl
theorem enter_exact:Enters Tryz.prog 215:=enters_of Tryz.func215 (by kernel_rfl) rfl
theorem enter_reset:Enters Tryz.prog 183:=enters_of Tryz.func183 (by kernel_rfl) rfl
theorem enter_window:Enters Tryz.prog 191:=enters_of Tryz.func191 (by kernel_rfl) rfl
theorem open_plain (t f s:Nat) (A:Option Addr) (n c B:Nat) (l:List UInt8) (W:World) (hr:Rd W B A n l) (hB:B<=W.heap.size) (hc:n<=c) (hn:n<=1000000000) (ht:t<=255) (hf:f<=255) (hs:s<=2147483647) (hp:hasF t f 8=false)
 (hk:t≠2/\t≠4/\t≠5/\(t=1->hasF t f 32=false)):
 Calls Tryz.prog 104 #[.agg #[.int .i64 (t:Nat),.int .i64 (f:Nat),.int .i64 (s:Nat),.slice A n c]] W (OpPost W t f s l):=by
 have hl:=hr.1;refine open_any t f s A n c B l W hr hB ht hf hs hp λW' g g3 g6 g8 hb hE hI hg=>?_;have h0:Rd W' W.heap.size A n l:=(hr.more hB).below hb;have h1:W.heap.size<=W'.heap.size:=hb.size;obtain⟨k2,k4,k5,k1⟩:=hk;have h2:t=0\/t=1\/t=3\/t=6\/t=7\/t=8\/t=9\/¬t<=9:=by omega
 rcases h2 with rfl|rfl|rfl|rfl|rfl|rfl|rfl|h9
 · exact⟨_,#[],rfl,enter_rest,rest_rd g _ A n c _ l W' hI h0 h1 (by omega) rfl rfl⟩
 · exact⟨_,#[],rfl,enter_heads,rdHeads g _ A n c _ l W' hI h0 h1 (by omega) rfl (k1 rfl) rfl⟩
 · refine⟨_,_,rfl,enter_exact,exact_any g g3 4 183 _ A n c _ l W' enter_reset hE.1 h0 (λh=>?_) (λh=>?_)⟩
   · show(if l.length=4 then _ else _)=_
     rw[if_neg (by omega)]
   · subst h
     exact rdReset g _ A c _ l W' hI h0 rfl ⟨rfl,rfl⟩
 · refine⟨_,_,rfl,enter_exact,exact_any g g6 8 175 _ A n c _ l W' enter_rest hE.2.1 h0 (λh=>?_) (λh=>?_)⟩
   · show(if l.length=8 then _ else _)=_
     rw[if_neg (by omega)]
   · refine rest_rd g _ A n c _ l W' hI h0 h1 (by omega) rfl ?_
     show(if l.length=8 then _ else _)=_;rw[if_pos (by omega)]
 · exact⟨_,#[],rfl,enter_away,rdAway g _ A n c _ l W' hI h0 h1 hc (by omega) rfl rfl⟩
 · refine⟨_,_,rfl,enter_exact,exact_any g g8 4 191 _ A n c _ l W' enter_window hE.2.2 h0 (λh=>?_) (λh=>?_)⟩
   · show(if l.length=4 then _ else _)=_
     rw[if_neg (by omega)]
   · subst h
     exact rdWindow g _ A c _ l W' hI h0 rfl ⟨rfl,rfl⟩
 · exact⟨_,#[],rfl,enter_rest,rest_rd g _ A n c _ l W' hI h0 h1 (by omega) rfl rfl⟩
 · refine⟨_,#[],rdV_big g3 g6 g8 t h9,enter_rest,rest_rd g _ A n c _ l W' hI h0 h1 (by omega) rfl ?_⟩
   unfold rd
   split<;>first|(rename_i h;have:(info0 t f s).typ=t:=rfl;omega)|rfl
end Go.Proofs.YtkpppjhbmnfmkaaGreatDoor
end

section
namespace Go.Own
open Go.RowKit
theorem run_subZ {P:Program} {t e:TypeId} (hP:ByteP P t e) (A:Option Addr) (n c k u:Nat) (hk:k+u<=n) (hc:n<=c) (W:World):
 (Instr.slice t (.slice A n c) (some (.int .i64 (k:Int))) (some (.int .i64 (((k+u:Nat)):Int))) none).run P W= .ok (.slice (if c=k then A else A.map λx=>x.add k) u (c-k)) W:=by
 obtain⟨i,hi,hz,h1,h2⟩:=hP.info;simp[Instr.slice,run_underlying hP.slice,Instr.sliceBounds,run_sliceBound,sizeOf,typeInfo,hi,h1,Result.andThen,show k<=k+u by omega,show(k:Int)<=(k+u:Nat)by omega,show((k+u:Nat):Int)<=c by omega,-Int.natCast_add]
theorem wsub (n p:Nat) (h:p<n) (hn:n<=1000000):wrap64 ((n:Int)-(p:Int))=(n:Int)-(p:Int):=by unfold wrap64;omega
theorem wnat (p:Nat) (h:p<=255):wrap64 (p:Int)=(p:Int)/\IntKind.i64.wrap (p:Int)=(p:Int):=⟨by unfold wrap64;omega,by rw[IntKind.wrap_i64];omega⟩
theorem cut_subZ {P:Program} {t e:TypeId} (hP:ByteP P t e) {w:World} {B n c k u:Nat} {A:Option Addr} {l:List UInt8} (h:Rd w B A n l) (hk:k+u<=n) (hc:n<=c) (x y:Int) (hx:x=(k:Int)) (hy:y=((k+u:Nat):Int)):
 ∃A',Rd w B A' u ((l.drop k).take u)/\∀W:World,(Instr.slice t (.slice A n c) (some (.int .i64 x)) (some (.int .i64 y)) none).run P W= .ok (.slice A' u (c-k)) W:=
 ⟨_,h.sub hk hc,λW=>by rw[hx,hy];exact run_subZ hP A n c k u hk hc W⟩
end Go.Own
namespace Go.Proofs.YtkpppjhbmnfmkaaGreatDoor
open Go.RowKit Go.Own Go.Own.Fr Go.Own.Im
end Go.Proofs.YtkpppjhbmnfmkaaGreatDoor
end

section
set_option maxHeartbeats 16000000
set_option maxRecDepth 100000
namespace Go.Proofs.YtkpppjhbmnfmkaaGreatDoor
open Lib (hid)
open Go.RowKit Go.Own Go.Own.Fr Go.Own.Im
theorem open_pads (t f s:Nat) (Hv:t=0\/t=1\/t=5) (A:Option Addr) (n c B:Nat) (x:UInt8) (q:List UInt8) (W:World) (hr:Rd W B A n (x::q)) (hB:B<=W.heap.size) (hc:n<=c) (hn:n<=1000000) (hf:f<=255) (h8:hasF t f 8=true) (hs:s<=2147483647) (h0:s≠0) (hx:x.toNat<n)
 (hq:∀(W':World) (g g3 g6 g8:Nat) (A':Option Addr) (n' c':Nat),Below W.heap.size W W'->Blk W' g 91 (infC ({info0 t f s with pad:=x.toNat}:Inf) (.slice none 0 0) (.slice none 0 0))->W.heap.size<=g->Rd W' W.heap.size A' n' (q.take (q.length-x.toNat))->n'<=c'->n'<=1000000->
   ∃K cap,rdV g3 g6 g8 t= .func (.func K) #[] cap/\Enters Tryz.prog K/\Calls Tryz.prog K (#[.pointer (some ⟨g,0,none⟩),.slice A' n' c']++cap) W' (RdPost W' g ({info0 t f s with pad:=x.toNat}:Inf) (q.take (q.length-x.toNat)))):
 Calls Tryz.prog 104 #[.agg #[.int .i64 (t:Nat),.int .i64 (f:Nat),.int .i64 (s:Nat),.slice A n c]] W (OpPost W t f s (x::q)):=by
 have ht:t<=255:=by omega
 have hQ:q.length+1=n:=hr.1;have he:(rowOf t).1=false/\(rowOf t).2.1=true/\decide (t<=9)=true:=by rcases Hv with rfl|rfl|rfl<;>exact⟨rfl,rfl,rfl⟩
 have hR:opn t f s (x::q)=rd ({info0 t f s with pad:=x.toNat}:Inf) (q.take (q.length-x.toNat)):=by
  unfold opn;rw[he.1,he.2.1,if_neg (by simp[h0]),if_pos h8];show(if(x::q).length<=x.toNat then _ else _)=_;rw[if_neg (by simp;omega)]
 have gf:=hid hR;have Hs:=hid hr;have HB:=hid hB;have HP:=hid h8;have HN:=hid (show _/\_/\_/\_ from⟨hc,hn,hx,hQ⟩);have hZ:=hid he;have hA:=hid hq;have Hx:=hid (λw=>sort_any t w ht);clear hR h8 hr hB hc hn hx hQ Hv he hq;go_enter Tryz.func104,Tryz.ntmps104;go_upto_region 1 with fail;obtain⟨W0,Hy,HC,HD,H0,HF⟩:=open_start W t f s (.slice A n c);rw[Hy];have HG:=hid HC;have HZ:=hid HD;have H1:=hid H0;have H2:=hid HF;have c0:W0.cell? ⟨W.heap.size,0,none⟩=some (.int .i64 (t:Nat)):=H0.cell 0;clear Hy HC HD H0 HF;go_wp2_with fail;refine(Hx.out W0).mono ?_;rintro e W1 ⟨g3,g6,g8,rfl,hE,hG⟩;have HE:=hid hE;have hH:=hid hG;clear c0 hE hG;have hS:=hid (H1.out.below hH.out H1.out.lt);have hT:=hid (H2.out.below hH.out H2.out.lt);obtain⟨K1,cap1,H3⟩:=rdV_form g3 g6 g8 t;obtain⟨K2,HH⟩:=wrV_form t;rw[H3,HH];obtain⟨b1,hG⟩:∃b,(rowOf t).1=b:=⟨_,rfl⟩;obtain⟨b2,H4⟩:∃b,(rowOf t).2.1=b:=⟨_,rfl⟩;obtain⟨n3,hO⟩:∃b,(rowOf t).2.2=b:=⟨_,rfl⟩;obtain⟨d9,H5⟩:∃b,decide (t<=9)=b:=⟨_,rfl⟩;rw[hG,H4,hO,H5];have HQ:=hid (show(rowOf t).1=b1/\(rowOf t).2.1=b2/\(rowOf t).2.2=n3/\decide (t<=9)=d9/\rdV g3 g6 g8 t= .func (.func K1) #[] cap1 from⟨hG,H4,hO,H5,H3⟩);clear hG H4 hO H5 H3 HH;go_upto_region 2 with fail;have h3:=hid (Blk.new W1 184 #[.bool b1,.bool b2,.int .i64 (n3:Nat),.func (.func K1) #[] cap1,.func (.func K2) #[] #[]]);have hP:=hid ((HG.out.trans (hH.out.mono (by have:=HZ.out;omega))).alloc (by have:=hH.out.size;have:=HZ.out;omega) (.cells #[.bool b1,.bool b2,.int .i64 (n3:Nat),.func (.func K1) #[] cap1,.func (.func K2) #[] #[]] 184));have h5:=hid (hS.out.alloc (.cells #[.bool b1,.bool b2,.int .i64 (n3:Nat),.func (.func K1) #[] cap1,.func (.func K2) #[] #[]] 184));have hh:=hid (hT.out.alloc (.cells #[.bool b1,.bool b2,.int .i64 (n3:Nat),.func (.func K1) #[] cap1,.func (.func K2) #[] #[]] 184));have H7:=hid (HE.out.below ((Below.refl W1.heap.size W1).alloc (Nat.le_refl _) (.cells #[.bool b1,.bool b2,.int .i64 (n3:Nat),.func (.func K1) #[] cap1,.func (.func K2) #[] #[]] 184)));have hW:=hid (show(W1.alloc (.cells #[.bool b1,.bool b2,.int .i64 (n3:Nat),.func (.func K1) #[] cap1,.func (.func K2) #[] #[]] 184)).heap.size=W1.heap.size+1/\W.heap.size+2<=W1.heap.size by
  refine⟨by simp,?_⟩;have:=hH.out.size;have:=HZ.out;omega)
 generalize W1.alloc (.cells #[.bool b1,.bool b2,.int .i64 (n3:Nat),.func (.func K1) #[] cap1,.func (.func K2) #[] #[]] 184)=W2 at h3 hP h5 hh H7 hW ⊢;obtain⟨r4,HK⟩:∃r,W1.heap.size=r:=⟨_,rfl⟩;rw[HK]at h3 hW ⊢;clear HK hH HE hS hT H1 H2 HG HZ Hx;obtain⟨c0,c1,c2,c3⟩:W2.cell? ⟨W.heap.size,0,none⟩=some (.int .i64 (t:Nat))/\W2.cell? ⟨W.heap.size,1,none⟩=some (.int .i64 (f:Nat))/\W2.cell? ⟨W.heap.size,2,none⟩=some (.int .i64 (s:Nat))/\W2.cell? ⟨W.heap.size,3,none⟩=some (.slice A n c):=⟨h5.out.cell 0,h5.out.cell 1,h5.out.cell 2,h5.out.cell 3⟩;obtain⟨q0,q1,q2,q3⟩:W2.cell? ⟨r4,0,none⟩=some (.bool b1)/\W2.cell? ⟨r4,1,none⟩=some (.bool b2)/\W2.cell? ⟨r4,2,none⟩=some (.int .i64 (n3:Nat))/\W2.cell? ⟨r4,3,none⟩=some (.func (.func K1) #[] cap1):=⟨h3.out.cell 0,h3.out.cell 1,h3.out.cell 2,h3.out.cell 3⟩;go_upto_region 3 with(first
  |(refine wpList_rowPut _ rfl (.tmp 6) (.tmp 20) 91 rfl W2.heap.size 91 (infC {} (.slice none 0 0) (.slice none 0 0)) (infC {typ:=t,stream:=s} (.slice none 0 0) (.slice none 0 0)) rfl rfl (Blk.new W2 91 _) infSize rfl (infC_one _ _ _ _ _ _ _) ?_
    intro W3 HO HR;have HI:=hid HO;have hg:=grown_trans (World.grownBy_alloc W2 (.cells (infC {} (.slice none 0 0) (.slice none 0 0)) 91) (some W2.heap.size)) HR;have HS:=hid (hP.out.grown hg hP.out.size (λg e=>by injection e with e;have:=hP.out.size;omega));have h6:=hid (h5.out.grown hg (λe=>by injection e with e;have:=h5.out.lt;omega));have hU:=hid (hh.out.grown hg (λe=>by injection e with e;have:=hh.out.lt;omega));have hI:=hid (h3.out.grown hg (λe=>by injection e with e;have:=h3.out.lt;omega));have HT:=hid (show ExS W3 g3 g6 g8 from H7.out.below ⟨hg.os,hg.tape,hg.output,hg.size,λi hi=>hg.block i hi (λe=>by injection e with e;omega)⟩);have hJ:=hid (show W2.heap.size=r4+1/\W.heap.size+2<=r4 from hW.out);clear HO HR hg)
  |fail)
 obtain⟨gi,HU⟩:∃r,W2.heap.size=r:=⟨_,rfl⟩;rw[HU]at HI hJ ⊢;clear HU c0 c1 c2 c3 q0 q1 q2 q3 h5 hh h3 hP H7 hW;obtain⟨c0,c1,c2,c3⟩:W3.cell? ⟨W.heap.size,0,none⟩=some (.int .i64 (t:Nat))/\W3.cell? ⟨W.heap.size,1,none⟩=some (.int .i64 (f:Nat))/\W3.cell? ⟨W.heap.size,2,none⟩=some (.int .i64 (s:Nat))/\W3.cell? ⟨W.heap.size,3,none⟩=some (.slice A n c):=⟨h6.out.cell 0,h6.out.cell 1,h6.out.cell 2,h6.out.cell 3⟩;obtain⟨q0,q1,q2,q3⟩:W3.cell? ⟨r4,0,none⟩=some (.bool b1)/\W3.cell? ⟨r4,1,none⟩=some (.bool b2)/\W3.cell? ⟨r4,2,none⟩=some (.int .i64 (n3:Nat))/\W3.cell? ⟨r4,3,none⟩=some (.func (.func K1) #[] cap1):=⟨hI.out.cell 0,hI.out.cell 1,hI.out.cell 2,hI.out.cell 3⟩;have hO:n3<=255:=by rw[<-HQ.out.2.2.1];exact rowOf_fl t
 have h9:=hid (λ(k:Nat) (hk:k<=255) (W':World) (h4:W'.cell? ⟨r4,2,none⟩=some (.int .i64 (n3:Nat))) (h1:W'.cell? ⟨W.heap.size,1,none⟩=some (.int .i64 (f:Nat)))=>has_any k n3 f r4 W.heap.size W' h4 h1 (by omega) (by omega) (by omega));clear hO;obtain rfl:b1=false:=by rw[<-HQ.out.1];exact hZ.out.1
 obtain rfl:b2=true:=by rw[<-HQ.out.2.1];exact hZ.out.2.1
 obtain rfl:d9=true:=by rw[<-HQ.out.2.2.2.1];exact hZ.out.2.2
 have go:¬(s:Int)=0:=by omega
 have H8:(n3&&& f&&& 8 != 0)=true:=by
  have h:=HP.out;unfold hasF at h
  rwa [HQ.out.2.2.1]at h
 obtain⟨e4,H9⟩:∃b,(n3&&& f&&& 4 != 0)=b:=⟨_,rfl⟩;obtain⟨e32,hD⟩:∃b,(n3&&& f&&& 32 != 0)=b:=⟨_,rfl⟩;obtain⟨e1,Ha⟩:∃b,(n3&&& f&&& 1 != 0)=b:=⟨_,rfl⟩;have Hb:=hid (h9.out 4 (by omega));have Hc:=hid (h9.out 8 (by omega));have hF:=hid (h9.out 32 (by omega));have He:=hid (h9.out 1 (by omega));rw[H9]at Hb;rw[H8]at Hc;rw[hD]at hF;rw[Ha]at He;have Ht:=hid (show info0 t f s={typ:=t,stream:=s,flags:=0,endHeads:=e4,padded:=true,prio:=e32,ack:=false,endd:=e1}by
  obtain⟨r1,_,r3,r4,_⟩:=HQ.out;unfold info0 hasF;rw[r1,r3,H9,H8,hD,Ha,if_pos (of_decide_eq_true r4)];simp)
 clear H8 H9 hD Ha;have gq:∀(fn:Fn) (first cap:Array Value) (w:World),(Instr.makeFunc fn first cap).run Tryz.prog w= .ok (.func fn first cap) w:=λ_ _ _ _=>rfl;have g3':W3.cell? ⟨gi,3,none⟩=some (.bool false):=HI.out.cell 3;have g4:W3.cell? ⟨gi,4,none⟩=some (.bool false):=HI.out.cell 4;have g6':W3.cell? ⟨gi,6,none⟩=some (.bool false):=HI.out.cell 6;have g7:W3.cell? ⟨gi,7,none⟩=some (.bool false):=HI.out.cell 7;have f3:=HI.out.frozen 3;have f4:=HI.out.frozen 4;have f6:=HI.out.frozen 6;have f7:=HI.out.frozen 7;have n1:¬W.heap.size=gi:=by have:=hJ.out;omega
 have n2:¬r4=gi:=by have:=hJ.out;omega
 have n1':¬gi=W.heap.size:=by have:=hJ.out;omega
 have n2':¬gi=r4:=by have:=hJ.out;omega
 have hj:=hid (show OpF W W3 gi r4 g3 g6 g8 _ _ _ from⟨HI.out,hI.out,h6.out,hU.out,HT.out,HS.out,hJ.out⟩);clear h0;go_wp2_with fail;refine(Hb.out _ (hj.out.r.cell 2) (hj.out.f.cell 1)).mono ?_;rintro e w' ⟨rfl,hw⟩;subst w';go_wp2_with fail;refine(Hc.out _ (hj.out.r.cell 2) (hj.out.f.cell 1)).mono ?_;rintro e w' ⟨rfl,hw⟩;subst w';go_wp2_with fail;refine(hF.out _ (hj.out.r.cell 2) (hj.out.f.cell 1)).mono ?_;rintro e w' ⟨rfl,hw⟩;subst w';have hX:=hid (((hj.out.put 4 (.bool e4)).put 6 (.bool true)).put 7 (.bool e32));go_wp2_with fail;refine(He.out _ (hX.out.r.cell 2) (hX.out.f.cell 1)).mono ?_;rintro e w' ⟨rfl,hw⟩;subst w';have hl:=hid (hX.out.put 3 (.bool e1));go_upto_region 12 with fail;clear hj hX c0 c1 c2 c3 q0 q1 q2 q3 g3' g4 g6' g7 f3 f4 f6 f7 HI hI h6 hU HT HS He Hb Hc hF h9;generalize (((W3.setCell ⟨gi,4,none⟩ (.bool e4)).setCell ⟨gi,6,none⟩ (.bool true)).setCell ⟨gi,7,none⟩ (.bool e32)).setCell ⟨gi,3,none⟩ (.bool e1)=X at*
 have c3:X.cell? ⟨W.heap.size,3,none⟩=some (.slice A n c):=hl.out.f.cell 3;have gx6:X.cell? ⟨gi,6,none⟩=some (.bool true):=hl.out.i.cell 6;have g9:X.cell? ⟨gi,9,none⟩=some (.int .i64 0):=hl.out.i.cell 9;have f9:=hl.out.i.frozen 9;have r3:X.cell? ⟨r4,3,none⟩=some (.func (.func K1) #[] cap1):=hl.out.r.cell 3;have Hg:=(Hs.out.more HB.out).below hl.out.b;obtain⟨ad,rfl,Hu,HV⟩:=Hg.2 (by have:=HN.out.2.2.1;omega);have gg:X.cell? ad=some (.int .u8 x.toNat):=by
  have h:=HV 0 (by have:=HN.out.2.2.1;omega);rw[show ad.add 0=ad by cases ad;rfl]at h;exact h
 obtain⟨p,hp⟩:∃p,x.toNat=p:=⟨_,rfl⟩;have hb:p<=255:=by have:=x.toNat_lt;omega
 rw[hp]at gg;obtain⟨u,hu⟩:∃u,n-p-1=u:=⟨_,rfl⟩;have Hh:p<n:=by have:=HN.out.2.2.1;omega
 obtain⟨A',HW,gp⟩:=cut_subZ (P:=Tryz.prog) (t:=22) (k:=1) (u:=u) byteP Hg (by omega) HN.out.1 1 ((n:Int)-(p:Int)) rfl (by omega);have gh:=hid HW;have k1:((n:Int)==0)=false:=by simp;omega
 have k1':((n:Int)=0)=False:=by simp;omega
 have k2:((n:Int)<=(p:Int))=False:=by simp;omega
 have k2':(n<=p)=False:=by simp;omega
 have i1:(0:Int)<(n:Int):=by omega
 have ho:=hid (show x.toNat=p/\n-p-1=u/\p<n from⟨hp,hu,Hh⟩);have h7:=hid (hl.out.put 9 (.int .i64 (p:Nat)));have gj:u<=1000000000000:=by have:=HN.out.2.1;omega
 have k3:=wsub n p Hh HN.out.2.1;have k4:=(wnat p hb).2;have k5:=(wnat p hb).1;clear Hg HV Hu hp hu Hh HW hb gj;have HX:Blk (X.setCell ⟨gi,9,none⟩ (.int .i64 (p:Nat))) gi 91 (infC ({info0 t f s with pad:=p}:Inf) (.slice none 0 0) (.slice none 0 0)):=by rw[Ht.out];exact h7.out.i
 have hV:Rd (X.setCell ⟨gi,9,none⟩ (.int .i64 (p:Nat))) W.heap.size A' u (q.take u):=gh.out.keep λad2 HY=>World.cell?_of_block (h7.out.b.block _ HY |>.trans (hl.out.b.block _ HY).symm);have hL:q.take (q.length-p)=q.take u:=by congr 1;have:=ho.out;have:=HN.out.2.2.2;omega
 obtain⟨K,cap,hK,hE,hd⟩:=hA.out _ gi g3 g6 g8 A' u (c-1) h7.out.b (by rw[ho.out.1];exact HX) (by have:=h7.out.n;omega) (by rw[ho.out.1,hL];exact hV) (by have:=ho.out;have:=HN.out;omega) (by have:=ho.out;have:=HN.out;omega);rw[ho.out.1,hL]at hd;have gk:=HQ.out.2.2.2.2.symm.trans hK;injection gk with Hi _ gl
 injection Hi with Hi
 subst Hi gl;have hE:∀args w,(callFunc K1 args).run Tryz.prog w= .ok (.enter K1 args) w:=hE;have hC:=hid hd;have Hj:=hid h7.out.b.size;clear hd hK HX hV hL;go_wp2_with fail;generalize X.setCell ⟨gi,9,none⟩ (.int .i64 (p:Nat))=Y at*
 refine hC.out.mono ?_;intro e w' h;obtain⟨hg,hm⟩:=h;have g5:=hid (h7.out.z.grown hg (λe=>by injection e with e;have:=h7.out.n;omega));have hY:=hid (h7.out.b.grown hg h7.out.b.size (λg e=>by injection e with e;have:=h7.out.n;omega));have hL:q.take (q.length-x.toNat)=q.take u:=by congr 1;have:=ho.out;have:=HN.out.2.2.2;omega
 have Hl:=gf.out;rw[hL,ho.out.1]at Hl;have ga:=hid Hl;have Hm:=hid h7.out.z.lt;clear hg hC hA hL Hl c3 gx6 g9 r3 f9;cases hM:rd ({info0 t f s with pad:=p}:Inf) (q.take u)with
 |ok j=>
  rw[hM]at hm;obtain⟨rfl,sv,dv,gb,Hn,Ho⟩:=hm;obtain⟨A5,c5,rfl,_,_⟩:=Hn.form;obtain⟨A6,c6,rfl,_,_,_⟩:=Ho.form;have gm:=hid gb;have gc:=hid Hn;have gd:=hid Ho;have Hp:=hid hM;clear gb Hn Ho hM;go_wp2_with (first
   |(refine wpList_rowGet _ rfl (.tmp 6) 91 rfl gi 91 _ rfl gm.out _ Tryz.underlying91 rfl infSize ?_)
   |(refine wpList_rowPut _ rfl (.tmp 2) (.tmp 100) 91 rfl (W.heap.size+1) 91 (infC {} (.slice none 0 0) (.slice none 0 0)) _ rfl rfl g5.out infSize rfl (infC_one _ _ _ _ _ _ _) ?_
     intro W5 Hq hN)
   |fail)
  refine bodyPost_ret (results_open _ _ (W.heap.size+1) j _ _ _ rfl rfl Hq) rfl ⟨hY.out.grown hN hY.out.size (λg e=>by injection e with e;omega),?_⟩;rw[ga.out,Hp.out];refine⟨_,_,rfl,ew_base (gc.out.grown hN (.inr λe=>?_)) Hj.out,(gd.out.grown hN (.inr λe=>?_)).base Hj.out⟩
  · have h1:=(gc.out.lt _ e).1
    have h2:=Hm.out;omega
  · have h1:=(gd.out.lt e).2
    have h2:=Hm.out;omega
 |error x=>
  rw[hM]at hm;obtain⟨a,rfl,ha,ge⟩:=hm;have Hp:=hid hM;have gn:=hid ge;have HA:=hid ha;clear hM ge ha;go_wp2_with (first
   |(refine wpList_rowPut _ rfl (.tmp 2) (.tmp 98) 91 rfl (W.heap.size+1) 91 (infC {} (.slice none 0 0) (.slice none 0 0)) (infC {} (.slice none 0 0) (.slice none 0 0)) rfl rfl g5.out infSize rfl (infC_one _ _ _ _ _ _ _) ?_
     intro W5 Hq hN)
   |fail)
  refine bodyPost_ret (results_open _ _ (W.heap.size+1) {} _ _ _ rfl rfl Hq) rfl ⟨hY.out.grown hN hY.out.size (λg e=>by injection e with e;omega),?_⟩;rw[ga.out,Hp.out];exact⟨a,rfl,Nat.le_trans Hj.out HA.out,gn.out.grown hN (λe=>by injection e with e;have:=HA.out;have:=Hm.out;omega)⟩
end Go.Proofs.YtkpppjhbmnfmkaaGreatDoor
end
