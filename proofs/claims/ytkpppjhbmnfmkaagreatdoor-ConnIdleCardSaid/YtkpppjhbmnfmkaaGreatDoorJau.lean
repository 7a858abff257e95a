/-
  
  
  
  
  
-/
import Derived.Test.YtkpppjhbmnfmkaaGreatDoorYo
import Derived.Test.YtkpppjhbmnfmkaaGreatDoorJaj
set_option linter.unusedSimpArgs false
set_option linter.unusedVariables false
section
set_option maxHeartbeats 8000000
set_option maxRecDepth 100000
namespace Go.Proofs.YtkpppjhbmnfmkaaGreatDoor
open Lib (hid)
open Go.RowKit Go.Own Go.Own.Fr Go.Own.Im
attribute [local go_sem] Oper.semAt_some
theorem p2_start (W:World) (ci:Array Value):∃X,(W.alloc (.cells ci 96)).alloc (.cells #[.int .i64 0,.int .i64 0,.int .i64 0,.bool false,.bool false,.bool false,.bool false,.bool false,.bool false,.int .i64 0,.int .i64 0,.int .i64 0,.int .i64 0,.int .i64 0,.int .i64 0,.int .i64 0,.slice none 0 0,.slice none 0 0] 96)=X/\Blk X W.heap.size 96 ci/\Blk X (W.heap.size+1) 96 (infC {} (.slice none 0 0) (.slice none 0 0))/\Below W.heap.size W X:=
 ⟨_,rfl,(Blk.new W _ _).alloc _,blk_at (by simp),((Below.refl _ _).alloc (Nat.le_refl _) _).alloc (by simp) _⟩
theorem mod31 (v:Nat):((v:Int).tmod 2147483648)=((low v:Nat):Int)/\((v:Int) % 2147483648)=((low v:Nat):Int):=⟨rfl,rfl⟩
theorem rprio_any (i:Inf) (A5 A6:Option Addr) (n5 c5 n6 c6:Nat) (A:Option Addr) (n c B:Nat) (l:List UInt8) (W:World) (hr:Rd W B A n l) (hB:B<=W.heap.size) (hc:n<=c) (h5:5<=n):
 Calls Tryz.prog 124 #[.agg (infC i (.slice A5 n5 c5) (.slice A6 n6 c6)),.slice A n c] W λe w'=>∃i':Inf,e= .returned (.agg (infC i' (.slice A5 n5 c5) (.slice A6 n6 c6)))/\Below W.heap.size W w'/\i'.inc=i.inc/\i'.ack=i.ack/\i'.dep=low (ofB 0 (l.take 4)):=by
 obtain⟨A1,h1,hd⟩:=cut_head byteP hr (4:Int) (k:=4) rfl (by omega) hc;obtain⟨ad,rfl,h2,hcell⟩:=hr.2 (by omega);have h3:W.cell? ⟨ad.block,ad.off+4,none⟩=some (.int .u8 ((l.getD 4 0).toNat:Int)):=hcell 4 (by omega);obtain⟨y,hy⟩:∃v:Nat,(l.getD 4 0).toNat=v:=⟨_,rfl⟩;have h0:y<256:=by have:=(l.getD 4 0).toNat_lt;omega
 rw[hy]at h3;have e1:wrap64 ((y:Int)+1)=((y+1:Nat):Int):=by unfold wrap64;omega
 have e2:IntKind.i64.wrap ((y:Int)+1)=((y+1:Nat):Int):=by rw[IntKind.wrap_i64];omega
 have e3:IntKind.i64.wrap (y:Int)=(y:Int):=by rw[IntKind.wrap_i64];omega
 have i4:((4:Int)<(n:Int))=True:=by simp;omega
 have h6:=hid (λX (hX:Below W.heap.size W X)=>refnum_any A1 4 c (l.take 4) X B ((h1.more hB).below hX |> λh=>⟨h.1,λhn=>by obtain⟨a,b,_,d⟩:=h.2 hn;obtain⟨a',b',h',_⟩:=h1.2 hn;rw[b]at b';injection b' with b';subst b';exact⟨a,b,h',d⟩⟩) (Nat.le_refl _));obtain⟨v,hv⟩:∃v,ofB 0 (l.take 4)=v:=⟨_,rfl⟩;rw[hv]at h6 ⊢;obtain⟨m1,m2⟩:=mod31 v;obtain⟨lv,h7⟩:∃m,low v=m:=⟨_,rfl⟩;rw[h7]at m1 m2 ⊢;have he:=hid (And.intro h2 h3);have h8:=hid (Nat.lt_of_lt_of_le h2 hB);clear hr h1 hy hv hcell h3 h2 h0 h5 h7;go_enter Tryz.func124,Tryz.ntmps124;go_upto_region 1 with fail;obtain⟨X,hX,hi,hz,hb⟩:=p2_start W (infC i (.slice A5 n5 c5) (.slice A6 n6 c6));rw[hX];have HB:=hid hb;have HI:=hid hi;have HZ:=hid hz;clear hX hi hz hb;go_wp2_with fail;refine(h6.out X HB.out).mono ?_;rintro e w1 ⟨rfl,hw⟩;subst w1;obtain⟨dd,hm⟩:∃d,decide ((2147483648:Int)<=(v:Int))=d:=⟨_,rfl⟩;have x4:X.cell? ⟨ad.block,ad.off+4,none⟩=some (.int .u8 (y:Int)):=(HB.out.cell (p:=⟨ad.block,ad.off+4,none⟩) h8.out).trans he.out.2;have f8:=HI.out.frozen 8;have f10:=HI.out.frozen 10;have f11:=HI.out.frozen 11;have g8:X.cell? ⟨W.heap.size,8,none⟩=some (.bool i.alone):=HI.out.cell 8;have g10:X.cell? ⟨W.heap.size,10,none⟩=some (.int .i64 (i.dep:Nat)):=HI.out.cell 10;have g11:X.cell? ⟨W.heap.size,11,none⟩=some (.int .i64 (i.weight:Nat)):=HI.out.cell 11;have hne:ad.block≠W.heap.size:=by have:=h8.out;omega
 have h4:(ad.block=W.heap.size)=False:=by simp;omega
 have hf:=hid (((HI.out.put 8 (.bool dd)).put 10 (.int .i64 (lv:Nat))).put 11 (.int .i64 ((y:Int)+1)));have hh:=hid (((HZ.out.far (p:=⟨W.heap.size,8,none⟩) (show W.heap.size+1≠W.heap.size by omega) (.bool dd)).far (p:=⟨W.heap.size,10,none⟩) (show W.heap.size+1≠W.heap.size by omega) (.int .i64 (lv:Nat))).far (p:=⟨W.heap.size,11,none⟩) (show W.heap.size+1≠W.heap.size by omega) (.int .i64 ((y:Int)+1)));have h9:=hid (((HB.out.setCell (p:=⟨W.heap.size,8,none⟩) (Nat.le_refl _) (.bool dd)).setCell (p:=⟨W.heap.size,10,none⟩) (Nat.le_refl _) (.int .i64 (lv:Nat))).setCell (p:=⟨W.heap.size,11,none⟩) (Nat.le_refl _) (.int .i64 ((y:Int)+1)));go_upto_region 5 with fail;clear f8 f10 f11 g8 g10 g11 x4 hne h4;generalize ((X.setCell ⟨W.heap.size,8,none⟩ (.bool dd)).setCell ⟨W.heap.size,10,none⟩ (.int .i64 (lv:Nat))).setCell ⟨W.heap.size,11,none⟩ (.int .i64 ((y:Int)+1))=Y at*
 have hj:=hid (show Blk Y W.heap.size 96 (infC {i with alone:=dd,dep:=lv,weight:=y+1} (.slice A5 n5 c5) (.slice A6 n6 c6))from hf.out);go_wp2_with (first
  |(refine wpList_rowGet _ rfl _ 96 rfl W.heap.size 96 _ rfl hj.out _ Tryz.underlying96 rfl infSize5 ?_)
  |(refine wpList_rowPut _ rfl _ _ 96 rfl (W.heap.size+1) 96 _ (infC {i with alone:=dd,dep:=lv,weight:=y+1} (.slice A5 n5 c5) (.slice A6 n6 c6)) rfl rfl hh.out infSize5 rfl (infC_one _ _ _ _ _ _ _) ?_
    intro Y2 hk hl)
  |fail)
 refine bodyPost_ret (res4 Tryz.results124 _ _ (W.heap.size+1) _ _ _ rfl hk) rfl ⟨_,rfl,h9.out.grown hl h9.out.size (λg e=>by injection e with e;omega),rfl,rfl,rfl⟩
end Go.Proofs.YtkpppjhbmnfmkaaGreatDoor
end

section
set_option maxHeartbeats 16000000
set_option maxRecDepth 100000
namespace Go.Proofs.YtkpppjhbmnfmkaaGreatDoor
open Lib (hid)
open Go.RowKit Go.Own Go.Own.Fr Go.Own.Im
attribute [local go_sem] Oper.semAt_some
theorem Q4.drew {W X:World} {t f s:Nat} {v:Value} {ci cr z:Array Value} (h:Q4 W X t f s v ci cr z):Q4 W X.drew t f s v ci cr z:=⟨h.f,h.i,h.r,h.z,below_drew h.b⟩
theorem fltR_one (c k s:Nat):(fltR c k s).all (·.oneCell')=true:=by simp[fltR,Value.oneCell']
theorem bytesE {A:Option Addr} {n c B:Nat} {l:List UInt8} {w:World} (hr:Rd w B A n l) (hB:B<=w.heap.size) (hn:n<=1000000):Calls Tryz.prog 19 #[.slice A n c] w λe w'=>∃A' n' c',e= .returned (.slice A' n' c')/\Below w.heap.size w w':=
 (bytes_any A n c l w B hr hB (by omega)).mono λe w' h=>⟨_,_,_,h.1,h.2.2⟩
theorem rd_one {i0:Inf} {p:List UInt8} (h1:i0.typ=1):rd i0 p=if i0.prio=true then(if p.length<5 then .error (6,0)else match withDep i0 p with
 | .ok j=>.ok {j with data:=p.drop 5}
 | .error x=>.error x)else .ok {i0 with data:=p}:=by
 cases i0;simp only at h1;subst h1
 rfl
theorem rheads_any (t f s:Nat) (A0:Option Addr) (n0 c0:Nat) (A:Option Addr) (n c B:Nat) (p:List UInt8) (i:Inf) (A5 A6:Option Addr) (n5 c5 n6 c6:Nat) (W:World) (hr:Rd W B A n p) (hB:B<=W.heap.size) (hc:n<=c) (hn:n<=1000000) (hf:f<=255) (i0:Inf) (h1:i0.typ=1) (h2:i0.prio=(f&&& 32 != 0)) (h3:i0.stream=s) (h4:i0.inc=i.inc) (h5:i0.ack=i.ack):
 Calls Tryz.prog 123 #[.agg #[.int .i64 (t:Nat),.int .i64 (f:Nat),.int .i64 (s:Nat),.slice A0 n0 c0],.agg (infC i (.slice A5 n5 c5) (.slice A6 n6 c6)),.slice A n c] W (SyPost W (rd i0 p)):=by
 have hl:=hr.1;have HN:=hid (λW=>fnone_any W);have e1:bits .and .i64 (f:Int) 1=((f&&& 1:Nat):Int):=and_nat f 1 (by omega) (by omega);have e4:bits .and .i64 (f:Int) 4=((f&&& 4:Nat):Int):=and_nat f 4 (by omega) (by omega);have e32:bits .and .i64 (f:Int) 32=((f&&& 32:Nat):Int):=and_nat f 32 (by omega) (by omega);obtain⟨q1,hu⟩:∃q,f&&& 1=q:=⟨_,rfl⟩;obtain⟨q4,hw⟩:∃q,f&&& 4=q:=⟨_,rfl⟩;obtain⟨q32,hh⟩:∃q,f&&& 32=q:=⟨_,rfl⟩;rw[hu]at e1;rw[hw]at e4;rw[hh]at e32 h2;obtain⟨b1,hJ⟩:∃b,((q1:Int) != 0)=b:=⟨_,rfl⟩;obtain⟨b4,hL⟩:∃b,((q4:Int) != 0)=b:=⟨_,rfl⟩;obtain⟨b32,ho⟩:∃b,((q32:Int) != 0)=b:=⟨_,rfl⟩;have h2:i0.prio=b32:=by rw[h2,<-ho,Bool.eq_iff_iff];simp
 have HR:=hid hr;have HI:=hid (show _/\_/\_/\_/\_ from⟨h1,h2,h3,h4,h5⟩);have hA:=hid hl;clear hr h1 h2 h3 h4 h5 hu hw hh hl;go_enter Tryz.func123,Tryz.ntmps123;go_upto_region 1 with fail;obtain⟨X,hX,hq⟩:=q4_start W t f s (.slice A0 n0 c0) (infC i (.slice A5 n5 c5) (.slice A6 n6 c6));rw[hX];have HQ:=hid hq;clear hX hq;have x0:X.cell? ⟨W.heap.size,0,none⟩=some (.int .i64 (t:Nat)):=HQ.out.f.cell 0;have x1:X.cell? ⟨W.heap.size,1,none⟩=some (.int .i64 (f:Nat)):=HQ.out.f.cell 1;have x2:X.cell? ⟨W.heap.size,2,none⟩=some (.int .i64 (s:Nat)):=HQ.out.f.cell 2;have g3:X.cell? ⟨W.heap.size+1,3,none⟩=some (.bool i.endd):=HQ.out.i.cell 3;have fz3:=HQ.out.i.frozen 3;go_upto_region 2 with fail;have h0:=hid (show Q4 W (X.setCell ⟨W.heap.size+1,3,none⟩ (.bool b1)) t f s (.slice A0 n0 c0) (infC {i with endd:=b1} (.slice A5 n5 c5) (.slice A6 n6 c6)) (infC {} (.slice none 0 0) (.slice none 0 0)) (fltR 0 0 0)from HQ.out.put 3 (.bool b1));clear HQ;have HQ:=h0;clear h0 g3 fz3 x0 x1 x2;generalize X.setCell ⟨W.heap.size+1,3,none⟩ (.bool b1)=X at*
 have x1:X.cell? ⟨W.heap.size,1,none⟩=some (.int .i64 (f:Nat)):=HQ.out.f.cell 1;have g4:X.cell? ⟨W.heap.size+1,4,none⟩=some (.bool i.endHeads):=HQ.out.i.cell 4;have fz4:=HQ.out.i.frozen 4;go_upto_region 3 with fail;have h0:=hid (show Q4 W (X.setCell ⟨W.heap.size+1,4,none⟩ (.bool b4)) t f s (.slice A0 n0 c0) (infC {i with endd:=b1,endHeads:=b4} (.slice A5 n5 c5) (.slice A6 n6 c6)) (infC {} (.slice none 0 0) (.slice none 0 0)) (fltR 0 0 0)from HQ.out.put 4 (.bool b4));clear HQ;have HQ:=h0;clear h0 g4 fz4 x1;generalize X.setCell ⟨W.heap.size+1,4,none⟩ (.bool b4)=X at*
 have x1:X.cell? ⟨W.heap.size,1,none⟩=some (.int .i64 (f:Nat)):=HQ.out.f.cell 1;have x2:X.cell? ⟨W.heap.size,2,none⟩=some (.int .i64 (s:Nat)):=HQ.out.f.cell 2;cases b32
 case' false=>
  obtain⟨j9,hi⟩:∃j:Inf,j={i with endd:=b1,endHeads:=b4}:=⟨_,rfl⟩;have h9:=hid (show∃j,rd i0 p= .ok j/\j9.inc=j.inc/\j9.ack=j.ack from⟨_,by rw[rd_one HI.out.1,HI.out.2.1];rfl,by rw[hi];exact HI.out.2.2.2.1.symm,by rw[hi];exact HI.out.2.2.2.2.symm⟩);rw[<-hi]at HQ;have hm:=hid (bytesE (c:=c) ((HR.out.more hB).below HQ.out.b) HQ.out.b.size hn);clear hi x2
 case' true=>
  by_cases h5:n<5
  · have k5:((n:Int)<5)=True:=by simp;omega
    have he:rd i0 p= .error (6,0):=by rw[rd_one HI.out.1,HI.out.2.1,if_pos rfl,if_pos (by rw[hA.out];exact h5)]
    have h9:=hid he;clear h5 he;go_wp2_with fail;refine(ofh2_any 6 0 _).mono ?_;rintro e v1 ⟨rfl,hb⟩;have h7:=hid (Q4.below HQ.out hb);clear hb;go_wp2_with (first
     |(refine wpList_rowPut _ rfl _ _ 96 rfl (W.heap.size+2) 96 _ (infC {} (.slice none 0 0) (.slice none 0 0)) rfl rfl h7.out.r infSize5 rfl (infC_one _ _ _ _ _ _ _) ?_
       intro v2 hb hg;have h8:=hid (Q4.row h7.out hb hg);clear hb hg)
     |(refine wpList_rowPut _ rfl _ _ 98 rfl (W.heap.size+3) 98 _ (fltR 99 6 0) rfl rfl h8.out.z fltSize rfl (fltR_one _ _ _) ?_
       intro v3 hb hg;have h6:=hid (Q4.rowz h8.out hb hg);clear hb hg)
     |fail)
    exact bodyPost_ret (res67 Tryz.results123 _ _ _ _ _ _ _ (99,6,0) rfl rfl h6.out.r h6.out.z) rfl ⟨h6.out.b,by rw[h9.out]⟩
  have k5:((n:Int)<5)=False:=by simp;omega
  have he:rd i0 p=if(depI i0 p).dep=s then .error (1,s)else .ok {depI i0 p with data:=p.drop 5}:=by
   rw[rd_one HI.out.1,HI.out.2.1,if_pos rfl,if_neg (by rw[hA.out];exact h5),withDep_is,HI.out.2.2.1];by_cases hd:(depI i0 p).dep=s
   · rw[if_pos hd,if_pos hd]
   · rw[if_neg hd,if_neg hd]
  have hC:=hid he;obtain⟨A3,hD,hF⟩:=cut_from byteP HR.out (5:Int) (k:=5) rfl (by omega) hc;have hG:=hid hD;have H5:=hid (show 5<=n by omega);clear he hD h5;have g7:X.cell? ⟨W.heap.size+1,7,none⟩=some (.bool i.prio):=HQ.out.i.cell 7;have fz7:=HQ.out.i.frozen 7;go_upto_region 7 with fail;have h0:=hid (show Q4 W (X.setCell ⟨W.heap.size+1,7,none⟩ (.bool true)) t f s (.slice A0 n0 c0) (infC {i with endd:=b1,endHeads:=b4,prio:=true} (.slice A5 n5 c5) (.slice A6 n6 c6)) (infC {} (.slice none 0 0) (.slice none 0 0)) (fltR 0 0 0)from HQ.out.put 7 (.bool true));clear HQ;have HQ:=h0;clear h0 g7 fz7 x1 x2;generalize X.setCell ⟨W.heap.size+1,7,none⟩ (.bool true)=X at*
  have hE:=hid (rprio_any {i with endd:=b1,endHeads:=b4,prio:=true} A5 A6 n5 c5 n6 c6 A n c W.heap.size p X ((HR.out.more hB).below HQ.out.b) HQ.out.b.size hc H5.out);go_wp2_with (first
   |(refine wpList_rowGet _ rfl _ 96 rfl (W.heap.size+1) 96 _ rfl HQ.out.i _ Tryz.underlying96 rfl infSize5 ?_)
   |fail)
  refine hE.out.mono ?_;rintro e w1 ⟨j9,rfl,hb,h1,h2,h3⟩;have h0:=hid (Q4.below HQ.out hb);have HJ:=hid (show _/\_/\_ from⟨h1,h2,h3⟩);clear HQ hE hb h1 h2 h3;go_upto_region 9 with(first
   |(refine wpList_rowPut _ rfl _ _ 96 rfl (W.heap.size+1) 96 _ (infC j9 (.slice A5 n5 c5) (.slice A6 n6 c6)) rfl rfl h0.out.i infSize5 rfl (infC_one _ _ _ _ _ _ _) ?_
     intro X hb hg;have HQ:=hid (Q4.rowi h0.out hb hg);clear hb hg;have x2:X.cell? ⟨W.heap.size,2,none⟩=some (.int .i64 (s:Nat)):=HQ.out.f.cell 2;have g10:X.cell? ⟨W.heap.size+1,10,none⟩=some (.int .i64 (j9.dep:Nat)):=HQ.out.i.cell 10)
   |fail)
  by_cases hd:(depI i0 p).dep=s
  · have hk:j9.dep=s:=HJ.out.2.2.trans hd
    have h9:=hid (show rd i0 p= .error (1,s)by rw[hC.out,if_pos hd]);rw[hk]at g10;clear hd hk;go_wp2_with fail;refine(ofh2_any 1 s _).mono ?_;rintro e v1 ⟨rfl,hb⟩;have h7:=hid (Q4.below HQ.out hb);clear hb;go_wp2_with (first
     |(refine wpList_rowPut _ rfl _ _ 96 rfl (W.heap.size+2) 96 _ (infC {} (.slice none 0 0) (.slice none 0 0)) rfl rfl h7.out.r infSize5 rfl (infC_one _ _ _ _ _ _ _) ?_
       intro v2 hb hg;have h8:=hid (Q4.row h7.out hb hg);clear hb hg)
     |(refine wpList_rowPut _ rfl _ _ 98 rfl (W.heap.size+3) 98 _ (fltR 99 1 s) rfl rfl h8.out.z fltSize rfl (fltR_one _ _ _) ?_
       intro v3 hb hg;have h6:=hid (Q4.rowz h8.out hb hg);clear hb hg)
     |fail)
    exact bodyPost_ret (res67 Tryz.results123 _ _ _ _ _ _ _ (99,1,s) rfl rfl h6.out.r h6.out.z) rfl ⟨h6.out.b,by rw[h9.out]⟩
  have hk:¬j9.dep=s:=λe=>hd (HJ.out.2.2.symm.trans e);have hN:((j9.dep:Int)=(s:Int))=False:=by simp;omega
  have hO:((j9.dep:Int)==(s:Int))=false:=by simp;omega
  have h9:=hid (show∃j,rd i0 p= .ok j/\j9.inc=j.inc/\j9.ack=j.ack from⟨{depI i0 p with data:=p.drop 5},by rw[hC.out,if_neg hd],HJ.out.1.trans HI.out.2.2.2.1.symm,HJ.out.2.1.trans HI.out.2.2.2.2.symm⟩);have hm:=hid (bytesE (c:=c-5) ((hG.out.more hB).below HQ.out.b) HQ.out.b.size (by omega));clear hd hk
 all_goals
  go_wp2_with fail;refine hm.out.mono ?_;rintro e w1 ⟨A7,n7,c7,rfl,hb⟩;have h0:=hid (Q4.below HQ.out hb);clear HQ hb hm;have HQ:=h0;clear h0;have g17:w1.cell? ⟨W.heap.size+1,17,none⟩=some (.slice A6 n6 c6):=HQ.out.i.cell 17;have fz17:=HQ.out.i.frozen 17;go_upto_region 12 with fail;have h0:=hid (show Q4 W (w1.setCell ⟨W.heap.size+1,17,none⟩ (.slice A7 n7 c7)) t f s (.slice A0 n0 c0) (infC j9 (.slice A5 n5 c5) (.slice A7 n7 c7)) (infC {} (.slice none 0 0) (.slice none 0 0)) (fltR 0 0 0)from HQ.out.put 17 (.slice A7 n7 c7));clear HQ g17 fz17;have HQ:=h0;clear h0;generalize w1.setCell ⟨W.heap.size+1,17,none⟩ (.slice A7 n7 c7)=X at*
  have ht:=hid (show∀Xe,Q4 W Xe t f s (.slice A0 n0 c0) (infC j9 (.slice A5 n5 c5) (.slice A7 n7 c7)) (infC j9 (.slice A5 n5 c5) (.slice A7 n7 c7)) (fltR 0 0 0)->SyPost W (rd i0 p) (.returned (.tuple #[.agg (infC j9 (.slice A5 n5 c5) (.slice A7 n7 c7)),.agg (fltR 0 0 0)])) Xe fromλXe h=>by
   obtain⟨j,hj,h1,h2⟩:=h9.out;refine⟨h.b,?_⟩;rw[hj];exact⟨j9,A5,n5,c5,A7,n7,c7,rfl,h1,h2⟩)
  refine wp_region_noPanic ?_;refine wp_region_held_drew (S:=(λW'=>Blk W' (W.heap.size+1) 96 (infC j9 (.slice A5 n5 c5) (.slice A7 n7 c7)))) (by kernel_rfl) HQ.out.i (λhHeld=>?_);refine tk 0 ?_ (v:=.agg (infC j9 (.slice A5 n5 c5) (.slice A7 n7 c7))) (hy:=by intro w hH;have hI:=load_row5 hH;simp[execOp];change(Result.andThen (Sem.run _ (Instr.loadAt _ (.pointer (some ⟨W.heap.size+1,0,none⟩))) w) _)=_;rw[hI];rfl);refine tkr 1 (λK hK=>?_);go_simp;go_at_call 122;with_reducible refine Calls.mono (HN.out _) ?_
  rintro e v1 ⟨rfl,hb⟩;have h7:=hid (Q4.below HQ.out.drew hb);clear hb;refine hK.out _ _ h7.out.i (λhHeld2=>?_);clear hHeld;have hHeld:=hHeld2;clear hHeld2 hK K
  (try simp only[Act.put,List.setIfInBounds_toArray,List.set_cons_zero,List.set_cons_succ])
  refine tkr 2 (λK hK=>?_);rw[if_pos (by rfl)];refine oper_rowPut _ _ _ 96 rfl (W.heap.size+2) 96 _ (infC j9 (.slice A5 n5 c5) (.slice A7 n7 c7)) rfl rfl h7.out.r infSize5 rfl (infC_one _ _ _ _ _ _ _) ?_;intro v2 hb hg;have h8:=hid (Q4.row h7.out hb hg);clear hb hg;refine hK.out _ _ h8.out.i (λhHeld2=>?_);clear hHeld;have hHeld:=hHeld2;clear hHeld2 hK K
  (try simp only[Act.put,List.setIfInBounds_toArray,List.set_cons_zero,List.set_cons_succ])
  refine tkr 3 (λK hK=>?_);rw[if_pos (by rfl)];refine oper_rowPut _ _ _ 98 rfl (W.heap.size+3) 98 _ (fltR 0 0 0) rfl rfl h8.out.z fltSize rfl (fltR_one _ _ _) ?_;intro v3 hb hg;have h6:=hid (Q4.rowz h8.out hb hg);clear hb hg;refine hK.out _ _ h6.out.i (λhHeld2=>?_);clear hHeld;have hHeld:=hHeld2;clear hHeld2 hK K
  (try simp only[Act.put,List.setIfInBounds_toArray,List.set_cons_zero,List.set_cons_succ])
  refine wpAnyH_done (by kernel_rfl) ?_ _;refine NoPanic.normal ?_;go_wp2;exact bodyPost_ret (res67 Tryz.results123 _ _ _ _ _ _ _ (0,0,0) rfl rfl h6.out.r h6.out.z) rfl (ht.out _ h6.out)
end Go.Proofs.YtkpppjhbmnfmkaaGreatDoor
end

section
set_option maxHeartbeats 16000000
set_option maxRecDepth 100000
namespace Go.Proofs.YtkpppjhbmnfmkaaGreatDoor
open Lib (hid)
open Go.RowKit Go.Own Go.Own.Fr Go.Own.Im
attribute [local go_sem] Oper.semAt_some
theorem Q4.grownR {W X Y:World} {t f s:Nat} {v:Value} {ci cr z:Array Value} (h:Q4 W X t f s v ci cr z) {row:Option Nat} (hg:X.grownBy Y row) (hr:∀g,row=some g->W.heap.size+4<=g):Q4 W Y t f s v ci cr z:=
 ⟨h.f.grown hg (λe=>by have:=hr _ e.symm;omega),h.i.grown hg (λe=>by have:=hr _ e.symm;omega),h.r.grown hg (λe=>by have:=hr _ e.symm;omega),h.z.grown hg (λe=>by have:=hr _ e.symm;omega),h.b.grown hg h.b.size (λj e=>by have:=hr j e;omega)⟩
def SetRes (i0 j9:Inf) (p q:List UInt8):Prop:=(∀x,setsOf q= .error x->rd i0 p= .error x)/\(∀l,setsOf q= .ok l->∃j,rd i0 p= .ok j/\j9.inc=j.inc/\j9.ack=j.ack)
theorem bad_0 {a v:Nat} (h:¬((a=2/\1<v)\/(a=5/\(v<16384\/16777216<=v)))) (h':¬(a=4/\2147483647<v)):badSet (a,v)=none:=by unfold badSet;rw[if_neg h,if_neg h']
theorem bad_1 {a v:Nat} (h:(a=2/\1<v)\/(a=5/\(v<16384\/16777216<=v))) (_:0<=a):badSet (a,v)=some 1:=if_pos h
theorem bad_3 {a v:Nat} (h:¬((a=2/\1<v)\/(a=5/\(v<16384\/16777216<=v)))) (h':a=4/\2147483647<v):badSet (a,v)=some 3:=by unfold badSet;rw[if_neg h,if_pos h']
structure RsJ (W wr:World) (t f s n k:Nat) (v:Value) (i0 j9:Inf) (p:List UInt8) (A5:Option Addr) (n5 c5:Nat) (A6:Option Addr) (n6 c6:Nat) (done:List (Nat×Nat)):Prop where
 le:k<=n
 six:k % 6=0
 num:n5=done.length/\6*n5=k
 q:Q4 W wr t f s v (infC j9 (.slice A5 n5 c5) (.slice A6 n6 c6)) (infC {} (.slice none 0 0) (.slice none 0 0)) (fltR 0 0 0)
 own:SetO wr (W.heap.size+4) (.slice A5 n5 c5) done
 res:SetRes i0 j9 p (p.drop k)
theorem rsettings_any (t f s:Nat) (A0:Option Addr) (n0 c0:Nat) (A:Option Addr) (n c B:Nat) (p:List UInt8) (i:Inf) (A6:Option Addr) (n6 c6:Nat) (W:World) (hr:Rd W B A n p) (hB:B<=W.heap.size) (hc:n<=c) (hn:n<=100000) (hf:f<=255) (h6:n % 6=0) (i0:Inf)
 (h7:SetRes i0 {i with ack:=(f&&& 1 != 0)} p p):
 Calls Tryz.prog 125 #[.agg #[.int .i64 (t:Nat),.int .i64 (f:Nat),.int .i64 (s:Nat),.slice A0 n0 c0],.agg (infC i (.slice none 0 0) (.slice A6 n6 c6)),.slice A n c] W (SyPost W (rd i0 p)):=by
 have HN:=hid (λW=>fnone_any W);have hi:=hid (show∀W,Calls Tryz.prog 79 #[.int .i64 1,.int .i64 0] W (λe w'=>e= .returned (.agg (fltR 99 1 0))/\Below W.heap.size W w')fromλW=>ofh2_any 1 0 W);have hT:=hid (show∀W,Calls Tryz.prog 79 #[.int .i64 3,.int .i64 0] W (λe w'=>e= .returned (.agg (fltR 99 3 0))/\Below W.heap.size W w')fromλW=>ofh2_any 3 0 W);have e1:bits .and .i64 (f:Int) 1=((f&&& 1:Nat):Int):=and_nat f 1 (by omega) (by omega);obtain⟨q1,hD⟩:∃q,f&&& 1=q:=⟨_,rfl⟩;rw[hD]at e1 h7;obtain⟨b1,hE⟩:∃b,((q1:Int) != 0)=b:=⟨_,rfl⟩;rw[show(q1 != 0)=b1 by rw[<-hE,Bool.eq_iff_iff];simp]at h7;have HR:=hid hr;have h8:=hid (show _/\_/\_ from⟨hc,hn,h6⟩);have h9:=hid h7;clear hr h7 hD hc hn h6;go_enter Tryz.func125,Tryz.ntmps125;go_upto_region 1 with fail;obtain⟨X,hX,hq⟩:=q4_start W t f s (.slice A0 n0 c0) (infC i (.slice none 0 0) (.slice A6 n6 c6));rw[hX];have HQ:=hid hq;clear hX hq;have x0:X.cell? ⟨W.heap.size,0,none⟩=some (.int .i64 (t:Nat)):=HQ.out.f.cell 0;have x1:X.cell? ⟨W.heap.size,1,none⟩=some (.int .i64 (f:Nat)):=HQ.out.f.cell 1;have x2:X.cell? ⟨W.heap.size,2,none⟩=some (.int .i64 (s:Nat)):=HQ.out.f.cell 2;have g5:X.cell? ⟨W.heap.size+1,5,none⟩=some (.bool i.ack):=HQ.out.i.cell 5;have fz5:=HQ.out.i.frozen 5;go_upto_region 2 with fail;have hF:=hid (show Q4 W (X.setCell ⟨W.heap.size+1,5,none⟩ (.bool b1)) t f s (.slice A0 n0 c0) (infC {i with ack:=b1} (.slice none 0 0) (.slice A6 n6 c6)) (infC {} (.slice none 0 0) (.slice none 0 0)) (fltR 0 0 0)from HQ.out.put 5 (.bool b1));clear HQ;have HQ:=hF;clear hF g5 fz5 x0 x1 x2;generalize X.setCell ⟨W.heap.size+1,5,none⟩ (.bool b1)=X at*
 obtain⟨j9,hG⟩:∃j:Inf,j={i with ack:=b1}:=⟨_,rfl⟩;rw[<-hG]at HQ h9;have hH:=hid (show RsJ W X t f s n 0 (.slice A0 n0 c0) i0 j9 p none 0 0 A6 n6 c6 []from⟨Nat.zero_le _,rfl,⟨rfl,rfl⟩,HQ.out,setO_nil _ _,h9.out⟩);clear hG HQ h9 hE e1;go_wp2_with fail;go_loopw [8] (λt8 wr=>Hid (∃(k:Nat) (A5:Option Addr) (n5 c5:Nat) (done:List (Nat×Nat)),t8= .int .i64 (k:Nat)/\RsJ W wr t f s n k (.slice A0 n0 c0) i0 j9 p A5 n5 c5 A6 n6 c6 done)) (λt8 _=>n-(intOf t8).toNat)
 case atStart=>exact hid ⟨0,none,0,0,[],rfl,hH.out⟩
 case round=>
  obtain⟨k,A5,n5,c5,done,rfl,hj⟩:=hrel.out;clear hrel hH;have H3:wrap64 ((k:Int)+6)=(k:Int)+6:=by have:=hj.le;have:=h8.out;unfold wrap64;omega
  have H4:IntKind.i64.wrap ((k:Int)+6)=(k:Int)+6:=by have:=hj.le;have:=h8.out;rw[IntKind.wrap_i64];omega
  by_cases hI:k+6<=n
  · have hA:((k:Int)+6<=(n:Int))=True:=by simp;omega
    have H5:wrap64 ((k:Int)+2)=(k:Int)+2:=by have:=h8.out;unfold wrap64;omega
    have H7:IntKind.i64.wrap ((k:Int)+2)=(k:Int)+2:=by have:=h8.out;rw[IntKind.wrap_i64];omega
    obtain⟨b0,b1,b2,b3,b4,b5,q,hq⟩:=set_six (r:=p.drop k) (m:=n-k) (by rw[List.length_drop,HR.out.1]) (by have:=hj.six;have:=h8.out;omega) (by omega);have hk:=(HR.out.more hB).below hj.q.b;have hm:=h8.out.1;obtain⟨A2,ho,hd⟩:=cut_mid byteP hk (k:Int) ((k:Int)+2) (k:=k) (m:=2) rfl (by omega) (by omega) hm;obtain⟨A3,ht,he⟩:=cut_mid byteP hk ((k:Int)+2) ((k:Int)+6) (k:=k+2) (m:=4) (by omega) (by omega) (by omega) hm;rw[hq]at ho;rw[<-List.drop_drop,hq]at ht;obtain⟨a,ha⟩:∃v,ofB 0 [b0,b1]=v:=⟨_,rfl⟩;obtain⟨v,hv⟩:∃v,ofB 0 [b2,b3,b4,b5]=v:=⟨_,rfl⟩;have hJ:=hid (refnum_any A2 2 (c-k) [b0,b1] wr _ ho (by omega));have hL:=hid (refnum_any A3 4 (c-(k+2)) [b2,b3,b4,b5] wr _ ht (by omega));rw[ha]at hJ;rw[hv]at hL;have HS:=hid (show setsOf (p.drop k)=match badSet (a,v)with
     |some k=>.error (k,0)
     |none=>match setsOf q with
      | .ok l=>.ok ((a,v)::l)
      | .error x=>.error x by rw[hq,setsOf,ha,hv];cases badSet (a,v)<;>rfl)
    have HJ:=hid hj;have hU:=hid (show p.drop (k+6)=q by rw[<-List.drop_drop,hq];rfl);have hN:=hid hI;have EW:=hid (show(k:Int)+6=((k+6:Nat):Int)by omega);clear ha hv ho ht hk hq hI hj hm;go_wp2_with fail;refine hJ.out.mono ?_;rintro e w1 ⟨rfl,hw⟩;subst w1;go_wp2_with fail;refine hL.out.mono ?_;rintro e w1 ⟨rfl,hw⟩;subst w1;clear hd he;have hh:(a=2/\1<v)\/(a=5/\v<16384)\/(a=5/\16777216<=v)\/(a=4/\2147483647<v)\/(a=2/\v<=1)\/(a=5/\(16384<=v/\v<16777216))\/(a=4/\v<=2147483647)\/(a≠2/\a≠5/\a≠4):=by omega
    rcases hh with h|h|h|h|h|h|h|h
    · have h5:=hid (bad_1 (a:=a) (v:=v) (by omega) (by omega))
      have m2:((a:Int)=2)=True:=by simp;omega
      have m2b:((a:Int)==2)=true:=by simp;omega
      have l77:((1:Int)<(v:Int))=True:=by simp;omega
      clear h;go_wp2_with fail;with_reducible refine Calls.mono (hi.out _) ?_
      rintro e v1 ⟨rfl,hb⟩;have h3:=hid (Q4.below HJ.out.q hb);clear hb;go_wp2_with (first
       |(refine wpList_rowPut _ rfl _ _ 96 rfl (W.heap.size+2) 96 _ (infC {} (.slice none 0 0) (.slice none 0 0)) rfl rfl h3.out.r infSize5 rfl (infC_one _ _ _ _ _ _ _) ?_
         intro v2 hb hg;have h4:=hid (Q4.row h3.out hb hg);clear hb hg)
       |(refine wpList_rowPut _ rfl _ _ 98 rfl (W.heap.size+3) 98 _ (fltR 99 1 0) rfl rfl h4.out.z fltSize rfl (fltR_one _ _ _) ?_
         intro v3 hb hg;have h0:=hid (Q4.rowz h4.out hb hg);clear hb hg)
       |fail)
      exact bodyPost_ret (res67 Tryz.results125 _ _ _ _ _ _ _ (99,1,0) rfl rfl h0.out.r h0.out.z) rfl ⟨h0.out.b,by rw[HJ.out.res.1 (1,0) (by rw[HS.out,h5.out])]⟩
    · have h5:=hid (bad_1 (a:=a) (v:=v) (by omega) (by omega))
      have m2:((a:Int)=2)=False:=by simp;omega
      have m2b:((a:Int)==2)=false:=by simp;omega
      have m5:((a:Int)=5)=True:=by simp;omega
      have m5b:((a:Int)==5)=true:=by simp;omega
      have l711:((v:Int)<(16384:Int))=True:=by simp;omega
      clear h;go_wp2_with fail;with_reducible refine Calls.mono (hi.out _) ?_
      rintro e v1 ⟨rfl,hb⟩;have h3:=hid (Q4.below HJ.out.q hb);clear hb;go_wp2_with (first
       |(refine wpList_rowPut _ rfl _ _ 96 rfl (W.heap.size+2) 96 _ (infC {} (.slice none 0 0) (.slice none 0 0)) rfl rfl h3.out.r infSize5 rfl (infC_one _ _ _ _ _ _ _) ?_
         intro v2 hb hg;have h4:=hid (Q4.row h3.out hb hg);clear hb hg)
       |(refine wpList_rowPut _ rfl _ _ 98 rfl (W.heap.size+3) 98 _ (fltR 99 1 0) rfl rfl h4.out.z fltSize rfl (fltR_one _ _ _) ?_
         intro v3 hb hg;have h0:=hid (Q4.rowz h4.out hb hg);clear hb hg)
       |fail)
      exact bodyPost_ret (res67 Tryz.results125 _ _ _ _ _ _ _ (99,1,0) rfl rfl h0.out.r h0.out.z) rfl ⟨h0.out.b,by rw[HJ.out.res.1 (1,0) (by rw[HS.out,h5.out])]⟩
    · have h5:=hid (bad_1 (a:=a) (v:=v) (by omega) (by omega))
      have m2:((a:Int)=2)=False:=by simp;omega
      have m2b:((a:Int)==2)=false:=by simp;omega
      have m5:((a:Int)=5)=True:=by simp;omega
      have m5b:((a:Int)==5)=true:=by simp;omega
      have l711:((v:Int)<(16384:Int))=False:=by simp;omega
      have l147:((16777215:Int)<(v:Int))=True:=by simp;omega
      clear h;go_wp2_with fail;with_reducible refine Calls.mono (hi.out _) ?_
      rintro e v1 ⟨rfl,hb⟩;have h3:=hid (Q4.below HJ.out.q hb);clear hb;go_wp2_with (first
       |(refine wpList_rowPut _ rfl _ _ 96 rfl (W.heap.size+2) 96 _ (infC {} (.slice none 0 0) (.slice none 0 0)) rfl rfl h3.out.r infSize5 rfl (infC_one _ _ _ _ _ _ _) ?_
         intro v2 hb hg;have h4:=hid (Q4.row h3.out hb hg);clear hb hg)
       |(refine wpList_rowPut _ rfl _ _ 98 rfl (W.heap.size+3) 98 _ (fltR 99 1 0) rfl rfl h4.out.z fltSize rfl (fltR_one _ _ _) ?_
         intro v3 hb hg;have h0:=hid (Q4.rowz h4.out hb hg);clear hb hg)
       |fail)
      exact bodyPost_ret (res67 Tryz.results125 _ _ _ _ _ _ _ (99,1,0) rfl rfl h0.out.r h0.out.z) rfl ⟨h0.out.b,by rw[HJ.out.res.1 (1,0) (by rw[HS.out,h5.out])]⟩
    · have h5:=hid (bad_3 (a:=a) (v:=v) (by omega) (by omega))
      have m2:((a:Int)=2)=False:=by simp;omega
      have m2b:((a:Int)==2)=false:=by simp;omega
      have m5:((a:Int)=5)=False:=by simp;omega
      have m5b:((a:Int)==5)=false:=by simp;omega
      have m4:((a:Int)=4)=True:=by simp;omega
      have m4b:((a:Int)==4)=true:=by simp;omega
      have l167:((2147483647:Int)<(v:Int))=True:=by simp;omega
      clear h;go_wp2_with fail;with_reducible refine Calls.mono (hT.out _) ?_
      rintro e v1 ⟨rfl,hb⟩;have h3:=hid (Q4.below HJ.out.q hb);clear hb;go_wp2_with (first
       |(refine wpList_rowPut _ rfl _ _ 96 rfl (W.heap.size+2) 96 _ (infC {} (.slice none 0 0) (.slice none 0 0)) rfl rfl h3.out.r infSize5 rfl (infC_one _ _ _ _ _ _ _) ?_
         intro v2 hb hg;have h4:=hid (Q4.row h3.out hb hg);clear hb hg)
       |(refine wpList_rowPut _ rfl _ _ 98 rfl (W.heap.size+3) 98 _ (fltR 99 3 0) rfl rfl h4.out.z fltSize rfl (fltR_one _ _ _) ?_
         intro v3 hb hg;have h0:=hid (Q4.rowz h4.out hb hg);clear hb hg)
       |fail)
      exact bodyPost_ret (res67 Tryz.results125 _ _ _ _ _ _ _ (99,3,0) rfl rfl h0.out.r h0.out.z) rfl ⟨h0.out.b,by rw[HJ.out.res.1 (3,0) (by rw[HS.out,h5.out])]⟩
    have h5:=hid (bad_0 (a:=a) (v:=v) (by omega) (by omega));have m2:((a:Int)=2)=True:=by simp;omega
    have m2b:((a:Int)==2)=true:=by simp;omega
    have m5:((a:Int)=5)=False:=by simp;omega
    have m5b:((a:Int)==5)=false:=by simp;omega
    have m4:((a:Int)=4)=False:=by simp;omega
    have m4b:((a:Int)==4)=false:=by simp;omega
    have l77:((1:Int)<(v:Int))=False:=by simp;omega
    clear h;rotate_left;have h5:=hid (bad_0 (a:=a) (v:=v) (by omega) (by omega));have m2:((a:Int)=2)=False:=by simp;omega
    have m2b:((a:Int)==2)=false:=by simp;omega
    have m5:((a:Int)=5)=True:=by simp;omega
    have m5b:((a:Int)==5)=true:=by simp;omega
    have m4:((a:Int)=4)=False:=by simp;omega
    have m4b:((a:Int)==4)=false:=by simp;omega
    have l711:((v:Int)<(16384:Int))=False:=by simp;omega
    have l147:((16777215:Int)<(v:Int))=False:=by simp;omega
    clear h;rotate_left;have h5:=hid (bad_0 (a:=a) (v:=v) (by omega) (by omega));have m2:((a:Int)=2)=False:=by simp;omega
    have m2b:((a:Int)==2)=false:=by simp;omega
    have m5:((a:Int)=5)=False:=by simp;omega
    have m5b:((a:Int)==5)=false:=by simp;omega
    have m4:((a:Int)=4)=True:=by simp;omega
    have m4b:((a:Int)==4)=true:=by simp;omega
    have l167:((2147483647:Int)<(v:Int))=False:=by simp;omega
    clear h;rotate_left;have h5:=hid (bad_0 (a:=a) (v:=v) (by omega) (by omega));have m2:((a:Int)=2)=False:=by simp;omega
    have m2b:((a:Int)==2)=false:=by simp;omega
    have m5:((a:Int)=5)=False:=by simp;omega
    have m5b:((a:Int)==5)=false:=by simp;omega
    have m4:((a:Int)=4)=False:=by simp;omega
    have m4b:((a:Int)==4)=false:=by simp;omega
    clear h;rotate_left;all_goals
     have c16:wr.cell? ⟨W.heap.size+1,16,none⟩=some (.slice A5 n5 c5):=HJ.out.q.i.cell 16;have hO:=(Below.refl wr.heap.size wr).alloc (Nat.le_refl _) (.cells #[.int .i64 (a:Nat),.int .i64 (v:Nat)] 87);have hV:=hid (Q4.below HJ.out.q hO);have hP:=hid (show SetO (wr.alloc (.cells #[.int .i64 (a:Nat),.int .i64 (v:Nat)] 87)) (W.heap.size+4) (.slice A5 n5 c5) done from HJ.out.own.grown (World.grownBy_alloc wr (.cells #[.int .i64 (a:Nat),.int .i64 (v:Nat)] 87) none) (Cm.own_or _));have HX:=hid (show Cm.RS setC 2 (wr.alloc (.cells #[.int .i64 (a:Nat),.int .i64 (v:Nat)] 87)) (wr.alloc (.cells #[.int .i64 (a:Nat),.int .i64 (v:Nat)] 87)).heap.size (some ⟨wr.heap.size,0,none⟩) 1 [(a,v)]from(Cm.Ew.lit (k:=2) setC 87 (λ_=>rfl) wr [(a,v)] (by simp)).rs (λ_=>rfl) (by omega));have hW:=hid (show done.length+1<=1000000 by have:=HJ.out.num;have:=HJ.out.le;have:=h8.out;omega);have hY:=hid (show W.heap.size+4<=(wr.alloc (.cells #[.int .i64 (a:Nat),.int .i64 (v:Nat)] 87)).heap.size by have:=HJ.out.q.z.lt;simp;omega);clear hO;go_wp2_with (first
      |(at_builtin
        refine Cm.wpList_app_e elSet _ rfl (.tmp 65) (.tmp 69) rfl (W.heap.size+4) (.slice A5 n5 c5) done rfl hP.out _ (some ⟨wr.heap.size,0,none⟩) 1 1 [(a,v)] rfl HX.out hW.out hY.out ?_;intro A7 c7 w3 hQ hR hZ;have hu:=hid (Q4.grownR hV.out hR (λg e=>(hP.out.lt g e).1));have hS:=hid hQ;clear hQ hR hZ c16;have c16:w3.cell? ⟨W.heap.size+1,16,none⟩=some (.slice A5 n5 c5):=hu.out.i.cell 16;have f16:=hu.out.i.frozen 16)
      |fail)
     try rw[EW.out]
     refine⟨hid ⟨k+6,A7,done.length+1,c7,done++[(a,v)],rfl,⟨hN.out,by have:=HJ.out.six;omega,⟨by simp,by have:=HJ.out.num;omega⟩,hu.out.put 16 (.slice A7 (done.length+1) c7),hS.out.grown (grown_setCell (World.grownBy.refl w3 (some (W.heap.size+1))) 16 _) (.inr λe=>by have:=(hS.out.lt _ e).1;omega),?_⟩⟩,by simp[intOf];have:=hN.out;omega⟩;rw[hU.out];refine⟨λx hx=>HJ.out.res.1 x (by rw[HS.out,h5.out,hx]),λl hl=>HJ.out.res.2 ((a,v)::l) (by rw[HS.out,h5.out,hl])⟩
  · have hA:((k:Int)+6<=(n:Int))=False:=by simp;omega
    obtain rfl:k=n:=by have:=hj.six;have:=hj.le;have:=h8.out;omega
    have HQ:=hid hj.q;have H0:=hid (hj.res.2 [] (by rw[List.drop_of_length_le (Nat.le_of_eq HR.out.1)];rfl));clear hj;have hC:=hid (show∀Xe,Q4 W Xe t f s (.slice A0 n0 c0) (infC j9 (.slice A5 n5 c5) (.slice A6 n6 c6)) (infC j9 (.slice A5 n5 c5) (.slice A6 n6 c6)) (fltR 0 0 0)->SyPost W (rd i0 p) (.returned (.tuple #[.agg (infC j9 (.slice A5 n5 c5) (.slice A6 n6 c6)),.agg (fltR 0 0 0)])) Xe fromλXe h=>by
     obtain⟨j,hj,h1,h2⟩:=H0.out;refine⟨h.b,?_⟩;rw[hj];exact⟨j9,A5,n5,c5,A6,n6,c6,rfl,h1,h2⟩)
    go_upto_region 12 with fail;refine wp_region_noPanic ?_;refine wp_region_held_drew (S:=(λW'=>Blk W' (W.heap.size+1) 96 (infC j9 (.slice A5 n5 c5) (.slice A6 n6 c6)))) (by kernel_rfl) HQ.out.i (λhHeld=>?_);refine tk 0 ?_ (v:=.agg (infC j9 (.slice A5 n5 c5) (.slice A6 n6 c6))) (hy:=by intro w H1;have H2:=load_row5 H1;simp[execOp];change(Result.andThen (Sem.run _ (Instr.loadAt _ (.pointer (some ⟨W.heap.size+1,0,none⟩))) w) _)=_;rw[H2];rfl);refine tkr 1 (λK hK=>?_);go_simp;go_at_call 122;with_reducible refine Calls.mono (HN.out _) ?_
    rintro e v1 ⟨rfl,hb⟩;have h3:=hid (Q4.below HQ.out.drew hb);clear hb;refine hK.out _ _ h3.out.i (λhHeld2=>?_);clear hHeld;have hHeld:=hHeld2;clear hHeld2 hK K
    (try simp only[Act.put,List.setIfInBounds_toArray,List.set_cons_zero,List.set_cons_succ])
    refine tkr 2 (λK hK=>?_);rw[if_pos (by rfl)];refine oper_rowPut _ _ _ 96 rfl (W.heap.size+2) 96 _ (infC j9 (.slice A5 n5 c5) (.slice A6 n6 c6)) rfl rfl h3.out.r infSize5 rfl (infC_one _ _ _ _ _ _ _) ?_;intro v2 hb hg;have h4:=hid (Q4.row h3.out hb hg);clear hb hg;refine hK.out _ _ h4.out.i (λhHeld2=>?_);clear hHeld;have hHeld:=hHeld2;clear hHeld2 hK K
    (try simp only[Act.put,List.setIfInBounds_toArray,List.set_cons_zero,List.set_cons_succ])
    refine tkr 3 (λK hK=>?_);rw[if_pos (by rfl)];refine oper_rowPut _ _ _ 98 rfl (W.heap.size+3) 98 _ (fltR 0 0 0) rfl rfl h4.out.z fltSize rfl (fltR_one _ _ _) ?_;intro v3 hb hg;have h0:=hid (Q4.rowz h4.out hb hg);clear hb hg;refine hK.out _ _ h0.out.i (λhHeld2=>?_);clear hHeld;have hHeld:=hHeld2;clear hHeld2 hK K
    (try simp only[Act.put,List.setIfInBounds_toArray,List.set_cons_zero,List.set_cons_succ])
    refine wpAnyH_done (by kernel_rfl) ?_ _;refine NoPanic.normal ?_;go_wp2;exact bodyPost_ret (res67 Tryz.results125 _ _ _ _ _ _ _ (0,0,0) rfl rfl h0.out.r h0.out.z) rfl (hC.out _ h0.out)
end Go.Proofs.YtkpppjhbmnfmkaaGreatDoor
end

section
set_option maxHeartbeats 16000000
set_option maxRecDepth 100000
namespace Go.Proofs.YtkpppjhbmnfmkaaGreatDoor
open Lib (hid)
open Go.RowKit Go.Own Go.Own.Fr Go.Own.Im
attribute [local go_sem] Oper.semAt_some
theorem rd_0 {i0:Inf} {p:List UInt8} (h:i0.typ=0):rd i0 p= .ok {i0 with data:=p}:=by
 cases i0;simp only at h;subst h
 rfl
theorem rd_9 {i0:Inf} {p:List UInt8} (h:i0.typ=9):rd i0 p= .ok {i0 with data:=p}:=by
 cases i0;simp only at h;subst h
 rfl
theorem rd_6 {i0:Inf} {p:List UInt8} (h:i0.typ=6):rd i0 p=if p.length=8 then .ok {i0 with data:=p}else .error (6,0):=by
 cases i0;simp only at h;subst h
 rfl
theorem rd_3 {i0:Inf} {p:List UInt8} (h:i0.typ=3):rd i0 p=if p.length=4 then .ok {i0 with code:=ofB 0 p}else .error (6,0):=by
 cases i0;simp only at h;subst h
 rfl
theorem rd_7 {i0:Inf} {p:List UInt8} (h:i0.typ=7):rd i0 p=if p.length<8 then .error (6,0)else .ok {i0 with last:=low (ofB 0 (p.take 4)),code:=ofB 0 ((p.drop 4).take 4),data:=p.drop 8}:=by
 cases i0;simp only at h;subst h
 rfl
theorem rd_big {i0:Inf} {p:List UInt8} (h:9<i0.typ):rd i0 p= .ok {i0 with data:=p}:=by
 unfold rd
 split<;>first
  |rfl
  |(exfalso;omega)
theorem says0_any (t f s:Nat) (A0:Option Addr) (n0 c0:Nat) (A:Option Addr) (n c B:Nat) (p:List UInt8) (i:Inf) (W:World) (hr:Rd W B A n p) (hB:B<=W.heap.size) (hc:n<=c) (hn:n<=100000) (hf:f<=255) (i0:Inf) (ht:t=0) (h1:i0.typ=t) (h4:i0.inc=i.inc) (h5:i0.ack=i.ack):
 Calls Tryz.prog 82 #[.agg #[.int .i64 (t:Nat),.int .i64 (f:Nat),.int .i64 (s:Nat),.slice A0 n0 c0],.agg (infC i (.slice none 0 0) (.slice none 0 0)),.slice A n c] W (SyPost W (rd i0 p)):=by
 have hl:=hr.1;have HN:=hid (λW=>fnone_any W);have HR:=hid hr;clear hr hl;have e1:bits .and .i64 (f:Int) 1=((f&&& 1:Nat):Int):=and_nat f 1 (by omega) (by omega);obtain⟨q1,he⟩:∃q,f&&& 1=q:=⟨_,rfl⟩;rw[he]at e1;obtain⟨b1,hm⟩:∃b,((q1:Int) != 0)=b:=⟨_,rfl⟩;have HH:=hid (show rd i0 p= .ok {i0 with data:=p}from rd_0 (h1.trans ht));have H4:=hid h4;have H5:=hid h5;clear h1 h4 h5;have m0:((t:Int)=0)=True:=by simp;omega
 have m0b:((t:Int)==0)=true:=by simp;omega
 clear ht;go_enter Tryz.func82,Tryz.ntmps82;go_upto_region 1 with fail;obtain⟨X,hX,hq⟩:=q4_start W t f s (.slice A0 n0 c0) (infC i (.slice none 0 0) (.slice none 0 0));rw[hX];have HQ:=hid hq;clear hX hq;have x0:X.cell? ⟨W.heap.size,0,none⟩=some (.int .i64 (t:Nat)):=HQ.out.f.cell 0;have x1:X.cell? ⟨W.heap.size,1,none⟩=some (.int .i64 (f:Nat)):=HQ.out.f.cell 1;have x2:X.cell? ⟨W.heap.size,2,none⟩=some (.int .i64 (s:Nat)):=HQ.out.f.cell 2;have g3:X.cell? ⟨W.heap.size+1,3,none⟩=some (.bool i.endd):=HQ.out.i.cell 3;have fz3:=HQ.out.i.frozen 3;go_upto_region 6 with fail;have h0:=hid (show Q4 W (X.setCell ⟨W.heap.size+1,3,none⟩ (.bool b1)) t f s (.slice A0 n0 c0) (infC {i with endd:=b1} (.slice none 0 0) (.slice none 0 0)) (infC {} (.slice none 0 0) (.slice none 0 0)) (fltR 0 0 0)from HQ.out.put 3 (.bool b1));clear HQ;have HQ:=h0;clear h0 g3 fz3 x0 x1 x2;generalize X.setCell ⟨W.heap.size+1,3,none⟩ (.bool b1)=X at*
 obtain⟨j9,h3⟩:∃j:Inf,j={i with endd:=b1}:=⟨_,rfl⟩;rw[<-h3]at HQ;have hh:=hid (show∃j,rd i0 p= .ok j/\j9.inc=j.inc/\j9.ack=j.ack from⟨_,HH.out,by rw[h3];exact H4.out.symm,by rw[h3];exact H5.out.symm⟩);clear h3;have hd:=hid (bytesE (c:=c) ((HR.out.more hB).below HQ.out.b) HQ.out.b.size (by omega));go_wp2_with fail;refine hd.out.mono ?_;rintro e w1 ⟨A7,n7,c7,rfl,hb⟩;have h0:=hid (Q4.below HQ.out hb);clear HQ hb hd;have HQ:=h0;clear h0;have g17:w1.cell? ⟨W.heap.size+1,17,none⟩=some (.slice none 0 0):=HQ.out.i.cell 17;have fz17:=HQ.out.i.frozen 17;go_upto_region 39 with fail;have h0:=hid (show Q4 W (w1.setCell ⟨W.heap.size+1,17,none⟩ (.slice A7 n7 c7)) t f s (.slice A0 n0 c0) (infC j9 (.slice none 0 0) (.slice A7 n7 c7)) (infC {} (.slice none 0 0) (.slice none 0 0)) (fltR 0 0 0)from HQ.out.put 17 (.slice A7 n7 c7));clear HQ g17 fz17;have HQ:=h0;clear h0;generalize w1.setCell ⟨W.heap.size+1,17,none⟩ (.slice A7 n7 c7)=X at*
 have h9:=hid (show∀Xe,Q4 W Xe t f s (.slice A0 n0 c0) (infC j9 (.slice none 0 0) (.slice A7 n7 c7)) (infC j9 (.slice none 0 0) (.slice A7 n7 c7)) (fltR 0 0 0)->SyPost W (rd i0 p) (.returned (.tuple #[.agg (infC j9 (.slice none 0 0) (.slice A7 n7 c7)),.agg (fltR 0 0 0)])) Xe fromλXe h=>by
  obtain⟨j,hj,h1,h2⟩:=hh.out;refine⟨h.b,?_⟩;rw[hj];exact⟨j9,none,0,0,A7,n7,c7,rfl,h1,h2⟩)
 refine wp_region_noPanic ?_;refine wp_region_held_drew (S:=(λW'=>Blk W' (W.heap.size+1) 96 (infC j9 (.slice none 0 0) (.slice A7 n7 c7)))) (by kernel_rfl) HQ.out.i (λhHeld=>?_);refine tk 0 ?_ (v:=.agg (infC j9 (.slice none 0 0) (.slice A7 n7 c7))) (hy:=by intro w hi;have hk:=load_row5 hi;simp[execOp];change(Result.andThen (Sem.run _ (Instr.loadAt _ (.pointer (some ⟨W.heap.size+1,0,none⟩))) w) _)=_;rw[hk];rfl);refine tkr 1 (λK hK=>?_);go_simp;go_at_call 122;with_reducible refine Calls.mono (HN.out _) ?_
 rintro e v1 ⟨rfl,hb⟩;have h7:=hid (Q4.below HQ.out.drew hb);clear hb;refine hK.out _ _ h7.out.i (λhHeld2=>?_);clear hHeld;have hHeld:=hHeld2;clear hHeld2 hK K
 (try simp only[Act.put,List.setIfInBounds_toArray,List.set_cons_zero,List.set_cons_succ])
 refine tkr 2 (λK hK=>?_);rw[if_pos (by rfl)];refine oper_rowPut _ _ _ 96 rfl (W.heap.size+2) 96 _ (infC j9 (.slice none 0 0) (.slice A7 n7 c7)) rfl rfl h7.out.r infSize5 rfl (infC_one _ _ _ _ _ _ _) ?_;intro v2 hb hg;have h8:=hid (Q4.row h7.out hb hg);clear hb hg;refine hK.out _ _ h8.out.i (λhHeld2=>?_);clear hHeld;have hHeld:=hHeld2;clear hHeld2 hK K
 (try simp only[Act.put,List.setIfInBounds_toArray,List.set_cons_zero,List.set_cons_succ])
 refine tkr 3 (λK hK=>?_);rw[if_pos (by rfl)];refine oper_rowPut _ _ _ 98 rfl (W.heap.size+3) 98 _ (fltR 0 0 0) rfl rfl h8.out.z fltSize rfl (fltR_one _ _ _) ?_;intro v3 hb hg;have h6:=hid (Q4.rowz h8.out hb hg);clear hb hg;refine hK.out _ _ h6.out.i (λhHeld2=>?_);clear hHeld;have hHeld:=hHeld2;clear hHeld2 hK K
 (try simp only[Act.put,List.setIfInBounds_toArray,List.set_cons_zero,List.set_cons_succ])
 refine wpAnyH_done (by kernel_rfl) ?_ _;refine NoPanic.normal ?_;go_wp2;exact bodyPost_ret (res67 Tryz.results82 _ _ _ _ _ _ _ (0,0,0) rfl rfl h6.out.r h6.out.z) rfl (h9.out _ h6.out)
theorem says9_any (t f s:Nat) (A0:Option Addr) (n0 c0:Nat) (A:Option Addr) (n c B:Nat) (p:List UInt8) (i:Inf) (W:World) (hr:Rd W B A n p) (hB:B<=W.heap.size) (hc:n<=c) (hn:n<=100000) (hf:f<=255) (i0:Inf) (ht:t=9) (h1:i0.typ=t) (h4:i0.inc=i.inc) (h5:i0.ack=i.ack):
 Calls Tryz.prog 82 #[.agg #[.int .i64 (t:Nat),.int .i64 (f:Nat),.int .i64 (s:Nat),.slice A0 n0 c0],.agg (infC i (.slice none 0 0) (.slice none 0 0)),.slice A n c] W (SyPost W (rd i0 p)):=by
 have hl:=hr.1;have HN:=hid (λW=>fnone_any W);have HR:=hid hr;clear hr hl;have e4:bits .and .i64 (f:Int) 4=((f&&& 4:Nat):Int):=and_nat f 4 (by omega) (by omega);obtain⟨q4,he⟩:∃q,f&&& 4=q:=⟨_,rfl⟩;rw[he]at e4;obtain⟨b4,hm⟩:∃b,((q4:Int) != 0)=b:=⟨_,rfl⟩;have HH:=hid (show rd i0 p= .ok {i0 with data:=p}from rd_9 (h1.trans ht));have H4:=hid h4;have H5:=hid h5;clear h1 h4 h5;have m0:((t:Int)=0)=False:=by simp;omega
 have m0b:((t:Int)==0)=false:=by simp;omega
 have m1:((t:Int)=1)=False:=by simp;omega
 have m1b:((t:Int)==1)=false:=by simp;omega
 have m2:((t:Int)=2)=False:=by simp;omega
 have m2b:((t:Int)==2)=false:=by simp;omega
 have m3:((t:Int)=3)=False:=by simp;omega
 have m3b:((t:Int)==3)=false:=by simp;omega
 have m4:((t:Int)=4)=False:=by simp;omega
 have m4b:((t:Int)==4)=false:=by simp;omega
 have m5:((t:Int)=5)=False:=by simp;omega
 have m5b:((t:Int)==5)=false:=by simp;omega
 have m6:((t:Int)=6)=False:=by simp;omega
 have m6b:((t:Int)==6)=false:=by simp;omega
 have m7:((t:Int)=7)=False:=by simp;omega
 have m7b:((t:Int)==7)=false:=by simp;omega
 have m8:((t:Int)=8)=False:=by simp;omega
 have m8b:((t:Int)==8)=false:=by simp;omega
 have m9:((t:Int)=9)=True:=by simp;omega
 have m9b:((t:Int)==9)=true:=by simp;omega
 clear ht;go_enter Tryz.func82,Tryz.ntmps82;go_upto_region 1 with fail;obtain⟨X,hX,hq⟩:=q4_start W t f s (.slice A0 n0 c0) (infC i (.slice none 0 0) (.slice none 0 0));rw[hX];have HQ:=hid hq;clear hX hq;have x0:X.cell? ⟨W.heap.size,0,none⟩=some (.int .i64 (t:Nat)):=HQ.out.f.cell 0;have x1:X.cell? ⟨W.heap.size,1,none⟩=some (.int .i64 (f:Nat)):=HQ.out.f.cell 1;have x2:X.cell? ⟨W.heap.size,2,none⟩=some (.int .i64 (s:Nat)):=HQ.out.f.cell 2;have g4:X.cell? ⟨W.heap.size+1,4,none⟩=some (.bool i.endHeads):=HQ.out.i.cell 4;have fz4:=HQ.out.i.frozen 4;go_upto_region 38 with fail;have h0:=hid (show Q4 W (X.setCell ⟨W.heap.size+1,4,none⟩ (.bool b4)) t f s (.slice A0 n0 c0) (infC {i with endHeads:=b4} (.slice none 0 0) (.slice none 0 0)) (infC {} (.slice none 0 0) (.slice none 0 0)) (fltR 0 0 0)from HQ.out.put 4 (.bool b4));clear HQ;have HQ:=h0;clear h0 g4 fz4 x0 x1 x2;generalize X.setCell ⟨W.heap.size+1,4,none⟩ (.bool b4)=X at*
 obtain⟨j9,h3⟩:∃j:Inf,j={i with endHeads:=b4}:=⟨_,rfl⟩;rw[<-h3]at HQ;have hh:=hid (show∃j,rd i0 p= .ok j/\j9.inc=j.inc/\j9.ack=j.ack from⟨_,HH.out,by rw[h3];exact H4.out.symm,by rw[h3];exact H5.out.symm⟩);clear h3;have hd:=hid (bytesE (c:=c) ((HR.out.more hB).below HQ.out.b) HQ.out.b.size (by omega));go_wp2_with fail;refine hd.out.mono ?_;rintro e w1 ⟨A7,n7,c7,rfl,hb⟩;have h0:=hid (Q4.below HQ.out hb);clear HQ hb hd;have HQ:=h0;clear h0;have g17:w1.cell? ⟨W.heap.size+1,17,none⟩=some (.slice none 0 0):=HQ.out.i.cell 17;have fz17:=HQ.out.i.frozen 17;go_upto_region 39 with fail;have h0:=hid (show Q4 W (w1.setCell ⟨W.heap.size+1,17,none⟩ (.slice A7 n7 c7)) t f s (.slice A0 n0 c0) (infC j9 (.slice none 0 0) (.slice A7 n7 c7)) (infC {} (.slice none 0 0) (.slice none 0 0)) (fltR 0 0 0)from HQ.out.put 17 (.slice A7 n7 c7));clear HQ g17 fz17;have HQ:=h0;clear h0;generalize w1.setCell ⟨W.heap.size+1,17,none⟩ (.slice A7 n7 c7)=X at*
 have h9:=hid (show∀Xe,Q4 W Xe t f s (.slice A0 n0 c0) (infC j9 (.slice none 0 0) (.slice A7 n7 c7)) (infC j9 (.slice none 0 0) (.slice A7 n7 c7)) (fltR 0 0 0)->SyPost W (rd i0 p) (.returned (.tuple #[.agg (infC j9 (.slice none 0 0) (.slice A7 n7 c7)),.agg (fltR 0 0 0)])) Xe fromλXe h=>by
  obtain⟨j,hj,h1,h2⟩:=hh.out;refine⟨h.b,?_⟩;rw[hj];exact⟨j9,none,0,0,A7,n7,c7,rfl,h1,h2⟩)
 refine wp_region_noPanic ?_;refine wp_region_held_drew (S:=(λW'=>Blk W' (W.heap.size+1) 96 (infC j9 (.slice none 0 0) (.slice A7 n7 c7)))) (by kernel_rfl) HQ.out.i (λhHeld=>?_);refine tk 0 ?_ (v:=.agg (infC j9 (.slice none 0 0) (.slice A7 n7 c7))) (hy:=by intro w hi;have hk:=load_row5 hi;simp[execOp];change(Result.andThen (Sem.run _ (Instr.loadAt _ (.pointer (some ⟨W.heap.size+1,0,none⟩))) w) _)=_;rw[hk];rfl);refine tkr 1 (λK hK=>?_);go_simp;go_at_call 122;with_reducible refine Calls.mono (HN.out _) ?_
 rintro e v1 ⟨rfl,hb⟩;have h7:=hid (Q4.below HQ.out.drew hb);clear hb;refine hK.out _ _ h7.out.i (λhHeld2=>?_);clear hHeld;have hHeld:=hHeld2;clear hHeld2 hK K
 (try simp only[Act.put,List.setIfInBounds_toArray,List.set_cons_zero,List.set_cons_succ])
 refine tkr 2 (λK hK=>?_);rw[if_pos (by rfl)];refine oper_rowPut _ _ _ 96 rfl (W.heap.size+2) 96 _ (infC j9 (.slice none 0 0) (.slice A7 n7 c7)) rfl rfl h7.out.r infSize5 rfl (infC_one _ _ _ _ _ _ _) ?_;intro v2 hb hg;have h8:=hid (Q4.row h7.out hb hg);clear hb hg;refine hK.out _ _ h8.out.i (λhHeld2=>?_);clear hHeld;have hHeld:=hHeld2;clear hHeld2 hK K
 (try simp only[Act.put,List.setIfInBounds_toArray,List.set_cons_zero,List.set_cons_succ])
 refine tkr 3 (λK hK=>?_);rw[if_pos (by rfl)];refine oper_rowPut _ _ _ 98 rfl (W.heap.size+3) 98 _ (fltR 0 0 0) rfl rfl h8.out.z fltSize rfl (fltR_one _ _ _) ?_;intro v3 hb hg;have h6:=hid (Q4.rowz h8.out hb hg);clear hb hg;refine hK.out _ _ h6.out.i (λhHeld2=>?_);clear hHeld;have hHeld:=hHeld2;clear hHeld2 hK K
 (try simp only[Act.put,List.setIfInBounds_toArray,List.set_cons_zero,List.set_cons_succ])
 refine wpAnyH_done (by kernel_rfl) ?_ _;refine NoPanic.normal ?_;go_wp2;exact bodyPost_ret (res67 Tryz.results82 _ _ _ _ _ _ _ (0,0,0) rfl rfl h6.out.r h6.out.z) rfl (h9.out _ h6.out)
theorem saysX_any (t f s:Nat) (A0:Option Addr) (n0 c0:Nat) (A:Option Addr) (n c B:Nat) (p:List UInt8) (i:Inf) (W:World) (hr:Rd W B A n p) (hB:B<=W.heap.size) (hc:n<=c) (hn:n<=100000) (hf:f<=255) (i0:Inf) (ht:9<t) (h1:i0.typ=t) (h4:i0.inc=i.inc) (h5:i0.ack=i.ack):
 Calls Tryz.prog 82 #[.agg #[.int .i64 (t:Nat),.int .i64 (f:Nat),.int .i64 (s:Nat),.slice A0 n0 c0],.agg (infC i (.slice none 0 0) (.slice none 0 0)),.slice A n c] W (SyPost W (rd i0 p)):=by
 have hl:=hr.1;have HN:=hid (λW=>fnone_any W);have HR:=hid hr;clear hr hl;have HH:=hid (show rd i0 p= .ok {i0 with data:=p}from rd_big (h1▸ht));have H4:=hid h4;have H5:=hid h5;clear h1 h4 h5;obtain⟨⟨⟨m0,m1,m2,m3,m4⟩,m5,m6,m7,m8,m9⟩,⟨o0,o1,o2,o3,o4⟩,o5,o6,o7,o8,o9⟩:=none_ten ht;clear ht;go_enter Tryz.func82,Tryz.ntmps82;go_upto_region 1 with fail;obtain⟨X,hX,hq⟩:=q4_start W t f s (.slice A0 n0 c0) (infC i (.slice none 0 0) (.slice none 0 0));rw[hX];have HQ:=hid hq;clear hX hq;have x0:X.cell? ⟨W.heap.size,0,none⟩=some (.int .i64 (t:Nat)):=HQ.out.f.cell 0;have x1:X.cell? ⟨W.heap.size,1,none⟩=some (.int .i64 (f:Nat)):=HQ.out.f.cell 1;have x2:X.cell? ⟨W.heap.size,2,none⟩=some (.int .i64 (s:Nat)):=HQ.out.f.cell 2;have g1:X.cell? ⟨W.heap.size+1,1,none⟩=some (.int .i64 (i.flags:Nat)):=HQ.out.i.cell 1;have fz1:=HQ.out.i.frozen 1;go_upto_region 3 with fail;have h0:=hid (show Q4 W (X.setCell ⟨W.heap.size+1,1,none⟩ (.int .i64 (f:Nat))) t f s (.slice A0 n0 c0) (infC {i with flags:=f} (.slice none 0 0) (.slice none 0 0)) (infC {} (.slice none 0 0) (.slice none 0 0)) (fltR 0 0 0)from HQ.out.put 1 (.int .i64 (f:Nat)));clear HQ;have HQ:=h0;clear h0 g1 fz1 x0 x1 x2;generalize X.setCell ⟨W.heap.size+1,1,none⟩ (.int .i64 (f:Nat))=X at*
 obtain⟨j9,h3⟩:∃j:Inf,j={i with flags:=f}:=⟨_,rfl⟩;rw[<-h3]at HQ;have he:=hid (show∃j,rd i0 p= .ok j/\j9.inc=j.inc/\j9.ack=j.ack from⟨_,HH.out,by rw[h3];exact H4.out.symm,by rw[h3];exact H5.out.symm⟩);clear h3;have hd:=hid (bytesE (c:=c) ((HR.out.more hB).below HQ.out.b) HQ.out.b.size (by omega));go_wp2_with fail;refine hd.out.mono ?_;rintro e w1 ⟨A7,n7,c7,rfl,hb⟩;have h0:=hid (Q4.below HQ.out hb);clear HQ hb hd;have HQ:=h0;clear h0;have g17:w1.cell? ⟨W.heap.size+1,17,none⟩=some (.slice none 0 0):=HQ.out.i.cell 17;have fz17:=HQ.out.i.frozen 17;go_upto_region 39 with fail;have h0:=hid (show Q4 W (w1.setCell ⟨W.heap.size+1,17,none⟩ (.slice A7 n7 c7)) t f s (.slice A0 n0 c0) (infC j9 (.slice none 0 0) (.slice A7 n7 c7)) (infC {} (.slice none 0 0) (.slice none 0 0)) (fltR 0 0 0)from HQ.out.put 17 (.slice A7 n7 c7));clear HQ g17 fz17;have HQ:=h0;clear h0;generalize w1.setCell ⟨W.heap.size+1,17,none⟩ (.slice A7 n7 c7)=X at*
 have h9:=hid (show∀Xe,Q4 W Xe t f s (.slice A0 n0 c0) (infC j9 (.slice none 0 0) (.slice A7 n7 c7)) (infC j9 (.slice none 0 0) (.slice A7 n7 c7)) (fltR 0 0 0)->SyPost W (rd i0 p) (.returned (.tuple #[.agg (infC j9 (.slice none 0 0) (.slice A7 n7 c7)),.agg (fltR 0 0 0)])) Xe fromλXe h=>by
  obtain⟨j,hj,h1,h2⟩:=he.out;refine⟨h.b,?_⟩;rw[hj];exact⟨j9,none,0,0,A7,n7,c7,rfl,h1,h2⟩)
 refine wp_region_noPanic ?_;refine wp_region_held_drew (S:=(λW'=>Blk W' (W.heap.size+1) 96 (infC j9 (.slice none 0 0) (.slice A7 n7 c7)))) (by kernel_rfl) HQ.out.i (λhHeld=>?_);refine tk 0 ?_ (v:=.agg (infC j9 (.slice none 0 0) (.slice A7 n7 c7))) (hy:=by intro w hh;have hi:=load_row5 hh;simp[execOp];change(Result.andThen (Sem.run _ (Instr.loadAt _ (.pointer (some ⟨W.heap.size+1,0,none⟩))) w) _)=_;rw[hi];rfl);refine tkr 1 (λK hK=>?_);go_simp;go_at_call 122;with_reducible refine Calls.mono (HN.out _) ?_
 rintro e v1 ⟨rfl,hb⟩;have h7:=hid (Q4.below HQ.out.drew hb);clear hb;refine hK.out _ _ h7.out.i (λhHeld2=>?_);clear hHeld;have hHeld:=hHeld2;clear hHeld2 hK K
 (try simp only[Act.put,List.setIfInBounds_toArray,List.set_cons_zero,List.set_cons_succ])
 refine tkr 2 (λK hK=>?_);rw[if_pos (by rfl)];refine oper_rowPut _ _ _ 96 rfl (W.heap.size+2) 96 _ (infC j9 (.slice none 0 0) (.slice A7 n7 c7)) rfl rfl h7.out.r infSize5 rfl (infC_one _ _ _ _ _ _ _) ?_;intro v2 hb hg;have h8:=hid (Q4.row h7.out hb hg);clear hb hg;refine hK.out _ _ h8.out.i (λhHeld2=>?_);clear hHeld;have hHeld:=hHeld2;clear hHeld2 hK K
 (try simp only[Act.put,List.setIfInBounds_toArray,List.set_cons_zero,List.set_cons_succ])
 refine tkr 3 (λK hK=>?_);rw[if_pos (by rfl)];refine oper_rowPut _ _ _ 98 rfl (W.heap.size+3) 98 _ (fltR 0 0 0) rfl rfl h8.out.z fltSize rfl (fltR_one _ _ _) ?_;intro v3 hb hg;have h6:=hid (Q4.rowz h8.out hb hg);clear hb hg;refine hK.out _ _ h6.out.i (λhHeld2=>?_);clear hHeld;have hHeld:=hHeld2;clear hHeld2 hK K
 (try simp only[Act.put,List.setIfInBounds_toArray,List.set_cons_zero,List.set_cons_succ])
 refine wpAnyH_done (by kernel_rfl) ?_ _;refine NoPanic.normal ?_;go_wp2;exact bodyPost_ret (res67 Tryz.results82 _ _ _ _ _ _ _ (0,0,0) rfl rfl h6.out.r h6.out.z) rfl (h9.out _ h6.out)
theorem says6_any (t f s:Nat) (A0:Option Addr) (n0 c0:Nat) (A:Option Addr) (n c B:Nat) (p:List UInt8) (i:Inf) (W:World) (hr:Rd W B A n p) (hB:B<=W.heap.size) (hc:n<=c) (hn:n<=100000) (hf:f<=255) (i0:Inf) (ht:t=6) (h1:i0.typ=t) (h4:i0.inc=i.inc) (h5:i0.ack=(f&&& 1 != 0)) (h8:n=8):
 Calls Tryz.prog 82 #[.agg #[.int .i64 (t:Nat),.int .i64 (f:Nat),.int .i64 (s:Nat),.slice A0 n0 c0],.agg (infC i (.slice none 0 0) (.slice none 0 0)),.slice A n c] W (SyPost W (rd i0 p)):=by
 have hl:=hr.1;have HN:=hid (λW=>fnone_any W);have HR:=hid hr;have hi:=hid hl;clear hr hl;have e1:bits .and .i64 (f:Int) 1=((f&&& 1:Nat):Int):=and_nat f 1 (by omega) (by omega);obtain⟨q1,he⟩:∃q,f&&& 1=q:=⟨_,rfl⟩;rw[he]at e1;obtain⟨b1,hk⟩:∃b,((q1:Int) != 0)=b:=⟨_,rfl⟩;have HH:=hid (show rd i0 p= .ok {i0 with data:=p}from by rw[rd_6 (h1.trans ht),if_pos (hi.out.trans h8)]);have H4:=hid h4;have HA:=hid (show i0.ack=b1 by rw[h5,he,<-hk,Bool.eq_iff_iff];simp);clear h1 h4 h5 h8;have m0:((t:Int)=0)=False:=by simp;omega
 have m0b:((t:Int)==0)=false:=by simp;omega
 have m1:((t:Int)=1)=False:=by simp;omega
 have m1b:((t:Int)==1)=false:=by simp;omega
 have m2:((t:Int)=2)=False:=by simp;omega
 have m2b:((t:Int)==2)=false:=by simp;omega
 have m3:((t:Int)=3)=False:=by simp;omega
 have m3b:((t:Int)==3)=false:=by simp;omega
 have m4:((t:Int)=4)=False:=by simp;omega
 have m4b:((t:Int)==4)=false:=by simp;omega
 have m5:((t:Int)=5)=False:=by simp;omega
 have m5b:((t:Int)==5)=false:=by simp;omega
 have m6:((t:Int)=6)=True:=by simp;omega
 have m6b:((t:Int)==6)=true:=by simp;omega
 clear ht;go_enter Tryz.func82,Tryz.ntmps82;go_upto_region 1 with fail;obtain⟨X,hX,hq⟩:=q4_start W t f s (.slice A0 n0 c0) (infC i (.slice none 0 0) (.slice none 0 0));rw[hX];have HQ:=hid hq;clear hX hq;have x0:X.cell? ⟨W.heap.size,0,none⟩=some (.int .i64 (t:Nat)):=HQ.out.f.cell 0;have x1:X.cell? ⟨W.heap.size,1,none⟩=some (.int .i64 (f:Nat)):=HQ.out.f.cell 1;have x2:X.cell? ⟨W.heap.size,2,none⟩=some (.int .i64 (s:Nat)):=HQ.out.f.cell 2;have g5:X.cell? ⟨W.heap.size+1,5,none⟩=some (.bool i.ack):=HQ.out.i.cell 5;have fz5:=HQ.out.i.frozen 5;go_upto_region 27 with fail;have h0:=hid (show Q4 W (X.setCell ⟨W.heap.size+1,5,none⟩ (.bool b1)) t f s (.slice A0 n0 c0) (infC {i with ack:=b1} (.slice none 0 0) (.slice none 0 0)) (infC {} (.slice none 0 0) (.slice none 0 0)) (fltR 0 0 0)from HQ.out.put 5 (.bool b1));clear HQ;have HQ:=h0;clear h0 g5 fz5 x0 x1 x2;generalize X.setCell ⟨W.heap.size+1,5,none⟩ (.bool b1)=X at*
 obtain⟨j9,h3⟩:∃j:Inf,j={i with ack:=b1}:=⟨_,rfl⟩;rw[<-h3]at HQ;have hm:=hid (show∃j,rd i0 p= .ok j/\j9.inc=j.inc/\j9.ack=j.ack from⟨_,HH.out,by rw[h3];exact H4.out.symm,by rw[h3];exact HA.out.symm⟩);clear h3;have hh:=hid (bytesE (c:=c) ((HR.out.more hB).below HQ.out.b) HQ.out.b.size (by omega));go_wp2_with fail;refine hh.out.mono ?_;rintro e w1 ⟨A7,n7,c7,rfl,hb⟩;have h0:=hid (Q4.below HQ.out hb);clear HQ hb hh;have HQ:=h0;clear h0;have g17:w1.cell? ⟨W.heap.size+1,17,none⟩=some (.slice none 0 0):=HQ.out.i.cell 17;have fz17:=HQ.out.i.frozen 17;go_upto_region 39 with fail;have h0:=hid (show Q4 W (w1.setCell ⟨W.heap.size+1,17,none⟩ (.slice A7 n7 c7)) t f s (.slice A0 n0 c0) (infC j9 (.slice none 0 0) (.slice A7 n7 c7)) (infC {} (.slice none 0 0) (.slice none 0 0)) (fltR 0 0 0)from HQ.out.put 17 (.slice A7 n7 c7));clear HQ g17 fz17;have HQ:=h0;clear h0;generalize w1.setCell ⟨W.heap.size+1,17,none⟩ (.slice A7 n7 c7)=X at*
 have hd:=hid (show∀Xe,Q4 W Xe t f s (.slice A0 n0 c0) (infC j9 (.slice none 0 0) (.slice A7 n7 c7)) (infC j9 (.slice none 0 0) (.slice A7 n7 c7)) (fltR 0 0 0)->SyPost W (rd i0 p) (.returned (.tuple #[.agg (infC j9 (.slice none 0 0) (.slice A7 n7 c7)),.agg (fltR 0 0 0)])) Xe fromλXe h=>by
  obtain⟨j,hj,h1,h2⟩:=hm.out;refine⟨h.b,?_⟩;rw[hj];exact⟨j9,none,0,0,A7,n7,c7,rfl,h1,h2⟩)
 refine wp_region_noPanic ?_;refine wp_region_held_drew (S:=(λW'=>Blk W' (W.heap.size+1) 96 (infC j9 (.slice none 0 0) (.slice A7 n7 c7)))) (by kernel_rfl) HQ.out.i (λhHeld=>?_);refine tk 0 ?_ (v:=.agg (infC j9 (.slice none 0 0) (.slice A7 n7 c7))) (hy:=by intro w ho;have hu:=load_row5 ho;simp[execOp];change(Result.andThen (Sem.run _ (Instr.loadAt _ (.pointer (some ⟨W.heap.size+1,0,none⟩))) w) _)=_;rw[hu];rfl);refine tkr 1 (λK hK=>?_);go_simp;go_at_call 122;with_reducible refine Calls.mono (HN.out _) ?_
 rintro e v1 ⟨rfl,hb⟩;have h7:=hid (Q4.below HQ.out.drew hb);clear hb;refine hK.out _ _ h7.out.i (λhHeld2=>?_);clear hHeld;have hHeld:=hHeld2;clear hHeld2 hK K
 (try simp only[Act.put,List.setIfInBounds_toArray,List.set_cons_zero,List.set_cons_succ])
 refine tkr 2 (λK hK=>?_);rw[if_pos (by rfl)];refine oper_rowPut _ _ _ 96 rfl (W.heap.size+2) 96 _ (infC j9 (.slice none 0 0) (.slice A7 n7 c7)) rfl rfl h7.out.r infSize5 rfl (infC_one _ _ _ _ _ _ _) ?_;intro v2 hb hg;have h9:=hid (Q4.row h7.out hb hg);clear hb hg;refine hK.out _ _ h9.out.i (λhHeld2=>?_);clear hHeld;have hHeld:=hHeld2;clear hHeld2 hK K
 (try simp only[Act.put,List.setIfInBounds_toArray,List.set_cons_zero,List.set_cons_succ])
 refine tkr 3 (λK hK=>?_);rw[if_pos (by rfl)];refine oper_rowPut _ _ _ 98 rfl (W.heap.size+3) 98 _ (fltR 0 0 0) rfl rfl h9.out.z fltSize rfl (fltR_one _ _ _) ?_;intro v3 hb hg;have h6:=hid (Q4.rowz h9.out hb hg);clear hb hg;refine hK.out _ _ h6.out.i (λhHeld2=>?_);clear hHeld;have hHeld:=hHeld2;clear hHeld2 hK K
 (try simp only[Act.put,List.setIfInBounds_toArray,List.set_cons_zero,List.set_cons_succ])
 refine wpAnyH_done (by kernel_rfl) ?_ _;refine NoPanic.normal ?_;go_wp2;exact bodyPost_ret (res67 Tryz.results82 _ _ _ _ _ _ _ (0,0,0) rfl rfl h6.out.r h6.out.z) rfl (hd.out _ h6.out)
theorem says3_any (t f s:Nat) (A0:Option Addr) (n0 c0:Nat) (A:Option Addr) (n c B:Nat) (p:List UInt8) (i:Inf) (W:World) (hr:Rd W B A n p) (hB:B<=W.heap.size) (hc:n<=c) (hn:n<=100000) (hf:f<=255) (i0:Inf) (ht:t=3) (h1:i0.typ=t) (h4:i0.inc=i.inc) (h5:i0.ack=i.ack) (h8:n=4):
 Calls Tryz.prog 82 #[.agg #[.int .i64 (t:Nat),.int .i64 (f:Nat),.int .i64 (s:Nat),.slice A0 n0 c0],.agg (infC i (.slice none 0 0) (.slice none 0 0)),.slice A n c] W (SyPost W (rd i0 p)):=by
 have hl:=hr.1;have HN:=hid (λW=>fnone_any W);have HR:=hid hr;have hh:=hid hl;clear hr hl;obtain⟨v,hv⟩:∃v,ofB 0 p=v:=⟨_,rfl⟩;have HH:=hid (show rd i0 p= .ok {i0 with code:=ofB 0 p}by rw[rd_3 (h1.trans ht),if_pos (hh.out.trans h8)]);have H4:=hid h4;have H5:=hid h5;have H8:=hid h8;clear h1 h4 h5 h8;have m0:((t:Int)=0)=False:=by simp;omega
 have m0b:((t:Int)==0)=false:=by simp;omega
 have m1:((t:Int)=1)=False:=by simp;omega
 have m1b:((t:Int)==1)=false:=by simp;omega
 have m2:((t:Int)=2)=False:=by simp;omega
 have m2b:((t:Int)==2)=false:=by simp;omega
 have m3:((t:Int)=3)=True:=by simp;omega
 have m3b:((t:Int)==3)=true:=by simp;omega
 clear ht;go_enter Tryz.func82,Tryz.ntmps82;go_upto_region 1 with fail;obtain⟨X,hX,hq⟩:=q4_start W t f s (.slice A0 n0 c0) (infC i (.slice none 0 0) (.slice none 0 0));rw[hX];have HQ:=hid hq;clear hX hq;have x0:X.cell? ⟨W.heap.size,0,none⟩=some (.int .i64 (t:Nat)):=HQ.out.f.cell 0;have x1:X.cell? ⟨W.heap.size,1,none⟩=some (.int .i64 (f:Nat)):=HQ.out.f.cell 1;have x2:X.cell? ⟨W.heap.size,2,none⟩=some (.int .i64 (s:Nat)):=HQ.out.f.cell 2;have h6:=hid (refnum_any A n c p X _ ((HR.out.more hB).below HQ.out.b) (by have:=H8.out;omega));rw[hv]at h6;clear hv H8;go_wp2_with fail;refine h6.out.mono ?_;rintro e w1 ⟨rfl,hw⟩;subst w1;have g12:X.cell? ⟨W.heap.size+1,12,none⟩=some (.int .i64 (i.code:Nat)):=HQ.out.i.cell 12;have fz12:=HQ.out.i.frozen 12;go_upto_region 39 with fail;have he:=hid (show Q4 W (X.setCell ⟨W.heap.size+1,12,none⟩ (.int .i64 (v:Nat))) t f s (.slice A0 n0 c0) (infC {i with code:=v} (.slice none 0 0) (.slice none 0 0)) (infC {} (.slice none 0 0) (.slice none 0 0)) (fltR 0 0 0)from HQ.out.put 12 (.int .i64 (v:Nat)));clear HQ;have HQ:=he;clear he g12 fz12 h6 x0 x1 x2;generalize X.setCell ⟨W.heap.size+1,12,none⟩ (.int .i64 (v:Nat))=X at*
 obtain⟨j9,h0⟩:∃j:Inf,j={i with code:=v}:=⟨_,rfl⟩;rw[<-h0]at HQ;have hi:=hid (show∃j,rd i0 p= .ok j/\j9.inc=j.inc/\j9.ack=j.ack from⟨_,HH.out,by rw[h0];exact H4.out.symm,by rw[h0];exact H5.out.symm⟩);clear h0;have hd:=hid (show∀Xe,Q4 W Xe t f s (.slice A0 n0 c0) (infC j9 (.slice none 0 0) (.slice none 0 0)) (infC j9 (.slice none 0 0) (.slice none 0 0)) (fltR 0 0 0)->SyPost W (rd i0 p) (.returned (.tuple #[.agg (infC j9 (.slice none 0 0) (.slice none 0 0)),.agg (fltR 0 0 0)])) Xe fromλXe h=>by
  obtain⟨j,hj,h1,h2⟩:=hi.out;refine⟨h.b,?_⟩;rw[hj];exact⟨j9,none,0,0,none,0,0,rfl,h1,h2⟩)
 refine wp_region_noPanic ?_;refine wp_region_held_drew (S:=(λW'=>Blk W' (W.heap.size+1) 96 (infC j9 (.slice none 0 0) (.slice none 0 0)))) (by kernel_rfl) HQ.out.i (λhHeld=>?_);refine tk 0 ?_ (v:=.agg (infC j9 (.slice none 0 0) (.slice none 0 0))) (hy:=by intro w hk;have hm:=load_row5 hk;simp[execOp];change(Result.andThen (Sem.run _ (Instr.loadAt _ (.pointer (some ⟨W.heap.size+1,0,none⟩))) w) _)=_;rw[hm];rfl);refine tkr 1 (λK hK=>?_);go_simp;go_at_call 122;with_reducible refine Calls.mono (HN.out _) ?_
 rintro e v1 ⟨rfl,hb⟩;have h7:=hid (Q4.below HQ.out.drew hb);clear hb;refine hK.out _ _ h7.out.i (λhHeld2=>?_);clear hHeld;have hHeld:=hHeld2;clear hHeld2 hK K
 (try simp only[Act.put,List.setIfInBounds_toArray,List.set_cons_zero,List.set_cons_succ])
 refine tkr 2 (λK hK=>?_);rw[if_pos (by rfl)];refine oper_rowPut _ _ _ 96 rfl (W.heap.size+2) 96 _ (infC j9 (.slice none 0 0) (.slice none 0 0)) rfl rfl h7.out.r infSize5 rfl (infC_one _ _ _ _ _ _ _) ?_;intro v2 hb hg;have h9:=hid (Q4.row h7.out hb hg);clear hb hg;refine hK.out _ _ h9.out.i (λhHeld2=>?_);clear hHeld;have hHeld:=hHeld2;clear hHeld2 hK K
 (try simp only[Act.put,List.setIfInBounds_toArray,List.set_cons_zero,List.set_cons_succ])
 refine tkr 3 (λK hK=>?_);rw[if_pos (by rfl)];refine oper_rowPut _ _ _ 98 rfl (W.heap.size+3) 98 _ (fltR 0 0 0) rfl rfl h9.out.z fltSize rfl (fltR_one _ _ _) ?_;intro v3 hb hg;have h3:=hid (Q4.rowz h9.out hb hg);clear hb hg;refine hK.out _ _ h3.out.i (λhHeld2=>?_);clear hHeld;have hHeld:=hHeld2;clear hHeld2 hK K
 (try simp only[Act.put,List.setIfInBounds_toArray,List.set_cons_zero,List.set_cons_succ])
 refine wpAnyH_done (by kernel_rfl) ?_ _;refine NoPanic.normal ?_;go_wp2;exact bodyPost_ret (res67 Tryz.results82 _ _ _ _ _ _ _ (0,0,0) rfl rfl h3.out.r h3.out.z) rfl (hd.out _ h3.out)
theorem says7_any (t f s:Nat) (A0:Option Addr) (n0 c0:Nat) (A:Option Addr) (n c B:Nat) (p:List UInt8) (i:Inf) (W:World) (hr:Rd W B A n p) (hB:B<=W.heap.size) (hc:n<=c) (hn:n<=100000) (hf:f<=255) (i0:Inf) (ht:t=7) (h1:i0.typ=t) (h4:i0.inc=i.inc) (h5:i0.ack=i.ack) (h8:8<=n):
 Calls Tryz.prog 82 #[.agg #[.int .i64 (t:Nat),.int .i64 (f:Nat),.int .i64 (s:Nat),.slice A0 n0 c0],.agg (infC i (.slice none 0 0) (.slice none 0 0)),.slice A n c] W (SyPost W (rd i0 p)):=by
 have hl:=hr.1;have HN:=hid (λW=>fnone_any W);have HR:=hid hr;have hC:=hid hl;clear hr hl;obtain⟨v7,hv⟩:∃v,ofB 0 (p.take 4)=v:=⟨_,rfl⟩;obtain⟨v8,hm⟩:∃v,ofB 0 ((p.drop 4).take 4)=v:=⟨_,rfl⟩;obtain⟨m71,m72⟩:=mod31 v7;obtain⟨lv7,h9⟩:∃m,low v7=m:=⟨_,rfl⟩;rw[h9]at m71 m72;have HH:=hid (show rd i0 p= .ok {i0 with last:=low (ofB 0 (p.take 4)),code:=ofB 0 ((p.drop 4).take 4),data:=p.drop 8}by rw[rd_7 (h1.trans ht),if_neg (by rw[hC.out];omega)]);have H4:=hid h4;have H5:=hid h5;clear h1 h4 h5 h9;have m0:((t:Int)=0)=False:=by simp;omega
 have m0b:((t:Int)==0)=false:=by simp;omega
 have m1:((t:Int)=1)=False:=by simp;omega
 have m1b:((t:Int)==1)=false:=by simp;omega
 have m2:((t:Int)=2)=False:=by simp;omega
 have m2b:((t:Int)==2)=false:=by simp;omega
 have m3:((t:Int)=3)=False:=by simp;omega
 have m3b:((t:Int)==3)=false:=by simp;omega
 have m4:((t:Int)=4)=False:=by simp;omega
 have m4b:((t:Int)==4)=false:=by simp;omega
 have m5:((t:Int)=5)=False:=by simp;omega
 have m5b:((t:Int)==5)=false:=by simp;omega
 have m6:((t:Int)=6)=False:=by simp;omega
 have m6b:((t:Int)==6)=false:=by simp;omega
 have m7:((t:Int)=7)=True:=by simp;omega
 have m7b:((t:Int)==7)=true:=by simp;omega
 clear ht;go_enter Tryz.func82,Tryz.ntmps82;go_upto_region 1 with fail;obtain⟨X,hX,hq⟩:=q4_start W t f s (.slice A0 n0 c0) (infC i (.slice none 0 0) (.slice none 0 0));rw[hX];have HQ:=hid hq;clear hX hq;have x0:X.cell? ⟨W.heap.size,0,none⟩=some (.int .i64 (t:Nat)):=HQ.out.f.cell 0;have x1:X.cell? ⟨W.heap.size,1,none⟩=some (.int .i64 (f:Nat)):=HQ.out.f.cell 1;have x2:X.cell? ⟨W.heap.size,2,none⟩=some (.int .i64 (s:Nat)):=HQ.out.f.cell 2;obtain⟨A1,h7,h3⟩:=cut_head byteP ((HR.out.more hB).below HQ.out.b) (4:Int) (k:=4) rfl (by omega) hc;have h6:=hid (refnum_any A1 4 c (p.take 4) X _ h7 (by omega));rw[hv]at h6;clear hv h7;go_wp2_with fail;refine h6.out.mono ?_;rintro e w1 ⟨rfl,hw⟩;subst w1;have g13:X.cell? ⟨W.heap.size+1,13,none⟩=some (.int .i64 (i.last:Nat)):=HQ.out.i.cell 13;have fz13:=HQ.out.i.frozen 13;go_upto_region 30 with fail;have h0:=hid (show Q4 W (X.setCell ⟨W.heap.size+1,13,none⟩ (.int .i64 (lv7:Nat))) t f s (.slice A0 n0 c0) (infC {i with last:=lv7} (.slice none 0 0) (.slice none 0 0)) (infC {} (.slice none 0 0) (.slice none 0 0)) (fltR 0 0 0)from HQ.out.put 13 (.int .i64 (lv7:Nat)));clear HQ;have HQ:=h0;clear h0 g13 fz13 h6 x0 x1 x2 h3;generalize X.setCell ⟨W.heap.size+1,13,none⟩ (.int .i64 (lv7:Nat))=X at*
 obtain⟨A1,h7,h3⟩:=cut_mid byteP ((HR.out.more hB).below HQ.out.b) (4:Int) (8:Int) (k:=4) (m:=4) rfl (by omega) (by omega) hc;have h6:=hid (refnum_any A1 4 (c-4) ((p.drop 4).take 4) X _ h7 (by omega));rw[hm]at h6;clear hm h7;go_wp2_with fail;refine h6.out.mono ?_;rintro e w1 ⟨rfl,hw⟩;subst w1;have g12:X.cell? ⟨W.heap.size+1,12,none⟩=some (.int .i64 (i.code:Nat)):=HQ.out.i.cell 12;have fz12:=HQ.out.i.frozen 12;go_upto_region 31 with fail;have h0:=hid (show Q4 W (X.setCell ⟨W.heap.size+1,12,none⟩ (.int .i64 (v8:Nat))) t f s (.slice A0 n0 c0) (infC {i with last:=lv7,code:=v8} (.slice none 0 0) (.slice none 0 0)) (infC {} (.slice none 0 0) (.slice none 0 0)) (fltR 0 0 0)from HQ.out.put 12 (.int .i64 (v8:Nat)));clear HQ;have HQ:=h0;clear h0 g12 fz12 h6 h3;generalize X.setCell ⟨W.heap.size+1,12,none⟩ (.int .i64 (v8:Nat))=X at*
 obtain⟨j9,hd⟩:∃j:Inf,j={i with last:=lv7,code:=v8}:=⟨_,rfl⟩;rw[<-hd]at HQ;have hD:=hid (show∃j,rd i0 p= .ok j/\j9.inc=j.inc/\j9.ack=j.ack from⟨_,HH.out,by rw[hd];exact H4.out.symm,by rw[hd];exact H5.out.symm⟩);clear hd;obtain⟨A3,ho,hA⟩:=cut_from byteP HR.out (8:Int) (k:=8) rfl (by omega) hc;have hu:=hid (bytesE (c:=c-8) ((ho.more hB).below HQ.out.b) HQ.out.b.size (by omega));clear ho;go_wp2_with fail;refine hu.out.mono ?_;rintro e w1 ⟨A7,n7,c7,rfl,hb⟩;have h0:=hid (Q4.below HQ.out hb);clear HQ hb hu;have HQ:=h0;clear h0;have g17:w1.cell? ⟨W.heap.size+1,17,none⟩=some (.slice none 0 0):=HQ.out.i.cell 17;have fz17:=HQ.out.i.frozen 17;go_upto_region 39 with fail;have h0:=hid (show Q4 W (w1.setCell ⟨W.heap.size+1,17,none⟩ (.slice A7 n7 c7)) t f s (.slice A0 n0 c0) (infC j9 (.slice none 0 0) (.slice A7 n7 c7)) (infC {} (.slice none 0 0) (.slice none 0 0)) (fltR 0 0 0)from HQ.out.put 17 (.slice A7 n7 c7));clear HQ g17 fz17;have HQ:=h0;clear h0;generalize w1.setCell ⟨W.heap.size+1,17,none⟩ (.slice A7 n7 c7)=X at*
 have hk:=hid (show∀Xe,Q4 W Xe t f s (.slice A0 n0 c0) (infC j9 (.slice none 0 0) (.slice A7 n7 c7)) (infC j9 (.slice none 0 0) (.slice A7 n7 c7)) (fltR 0 0 0)->SyPost W (rd i0 p) (.returned (.tuple #[.agg (infC j9 (.slice none 0 0) (.slice A7 n7 c7)),.agg (fltR 0 0 0)])) Xe fromλXe h=>by
  obtain⟨j,hj,h1,h2⟩:=hD.out;refine⟨h.b,?_⟩;rw[hj];exact⟨j9,none,0,0,A7,n7,c7,rfl,h1,h2⟩)
 refine wp_region_noPanic ?_;refine wp_region_held_drew (S:=(λW'=>Blk W' (W.heap.size+1) 96 (infC j9 (.slice none 0 0) (.slice A7 n7 c7)))) (by kernel_rfl) HQ.out.i (λhHeld=>?_);refine tk 0 ?_ (v:=.agg (infC j9 (.slice none 0 0) (.slice A7 n7 c7))) (hy:=by intro w hE;have hF:=load_row5 hE;simp[execOp];change(Result.andThen (Sem.run _ (Instr.loadAt _ (.pointer (some ⟨W.heap.size+1,0,none⟩))) w) _)=_;rw[hF];rfl);refine tkr 1 (λK hK=>?_);go_simp;go_at_call 122;with_reducible refine Calls.mono (HN.out _) ?_
 rintro e v1 ⟨rfl,hb⟩;have hh:=hid (Q4.below HQ.out.drew hb);clear hb;refine hK.out _ _ hh.out.i (λhHeld2=>?_);clear hHeld;have hHeld:=hHeld2;clear hHeld2 hK K
 (try simp only[Act.put,List.setIfInBounds_toArray,List.set_cons_zero,List.set_cons_succ])
 refine tkr 2 (λK hK=>?_);rw[if_pos (by rfl)];refine oper_rowPut _ _ _ 96 rfl (W.heap.size+2) 96 _ (infC j9 (.slice none 0 0) (.slice A7 n7 c7)) rfl rfl hh.out.r infSize5 rfl (infC_one _ _ _ _ _ _ _) ?_;intro v2 hb hg;have hi:=hid (Q4.row hh.out hb hg);clear hb hg;refine hK.out _ _ hi.out.i (λhHeld2=>?_);clear hHeld;have hHeld:=hHeld2;clear hHeld2 hK K
 (try simp only[Act.put,List.setIfInBounds_toArray,List.set_cons_zero,List.set_cons_succ])
 refine tkr 3 (λK hK=>?_);rw[if_pos (by rfl)];refine oper_rowPut _ _ _ 98 rfl (W.heap.size+3) 98 _ (fltR 0 0 0) rfl rfl hi.out.z fltSize rfl (fltR_one _ _ _) ?_;intro v3 hb hg;have he:=hid (Q4.rowz hi.out hb hg);clear hb hg;refine hK.out _ _ he.out.i (λhHeld2=>?_);clear hHeld;have hHeld:=hHeld2;clear hHeld2 hK K
 (try simp only[Act.put,List.setIfInBounds_toArray,List.set_cons_zero,List.set_cons_succ])
 refine wpAnyH_done (by kernel_rfl) ?_ _;refine NoPanic.normal ?_;go_wp2;exact bodyPost_ret (res67 Tryz.results82 _ _ _ _ _ _ _ (0,0,0) rfl rfl he.out.r he.out.z) rfl (hk.out _ he.out)
end Go.Proofs.YtkpppjhbmnfmkaaGreatDoor
end

section
set_option maxHeartbeats 16000000
set_option maxRecDepth 100000
namespace Go.Proofs.YtkpppjhbmnfmkaaGreatDoor
open Lib (hid)
open Go.RowKit Go.Own Go.Own.Fr Go.Own.Im
attribute [local go_sem] Oper.semAt_some
theorem rd_8 {i0:Inf} {p:List UInt8} (h:i0.typ=8):rd i0 p=if p.length=4 then(if low (ofB 0 p)=0 then .error (1,i0.stream)else .ok {i0 with inc:=low (ofB 0 p)})else .error (6,0):=by
 cases i0;simp only at h;subst h
 rfl
theorem rd_5 {i0:Inf} {p:List UInt8} (h:i0.typ=5):rd i0 p=if p.length<4 then .error (6,0)else if low (ofB 0 (p.take 4))=0 then .error (1,0)else .ok {i0 with promise:=low (ofB 0 (p.take 4)),data:=p.drop 4}:=by
 cases i0;simp only at h;subst h
 rfl
theorem rd_2 {i0:Inf} {p:List UInt8} (h:i0.typ=2):rd i0 p=if p.length=5 then withDep i0 p else .error (6,i0.stream):=by
 cases i0;simp only at h;subst h
 rfl
theorem rd_4 {i0:Inf} {p:List UInt8} (h:i0.typ=4):rd i0 p=if(i0.ack=true/\0<p.length)\/p.length % 6≠0 then .error (6,0)else match setsOf p with
 | .ok l=>.ok {i0 with sets:=l}
 | .error x=>.error x:=by
 cases i0;simp only at h;subst h
 rfl
theorem says8_any (t f s:Nat) (A0:Option Addr) (n0 c0:Nat) (A:Option Addr) (n c B:Nat) (p:List UInt8) (i:Inf) (W:World) (hr:Rd W B A n p) (hB:B<=W.heap.size) (hc:n<=c) (hn:n<=100000) (hf:f<=255) (i0:Inf) (ht:t=8) (h1:i0.typ=t) (h3:i0.stream=s) (h5:i0.ack=i.ack) (h8:n=4):
 Calls Tryz.prog 82 #[.agg #[.int .i64 (t:Nat),.int .i64 (f:Nat),.int .i64 (s:Nat),.slice A0 n0 c0],.agg (infC i (.slice none 0 0) (.slice none 0 0)),.slice A n c] W (SyPost W (rd i0 p)):=by
 have hl:=hr.1;have HN:=hid (λW=>fnone_any W);have HR:=hid hr;have hk:=hid hl;clear hr hl;obtain⟨v8,hv⟩:∃v,ofB 0 p=v:=⟨_,rfl⟩;have HH:=hid (show rd i0 p=if low v8=0 then .error (1,s)else .ok {i0 with inc:=low v8}by rw[rd_8 (h1.trans ht),if_pos (hk.out.trans h8),hv,h3]);obtain⟨m81,m82⟩:=mod31 v8;obtain⟨lv8,h4⟩:∃m,low v8=m:=⟨_,rfl⟩;rw[h4]at m81 m82;rw[h4]at HH;have H5:=hid h5;have H8:=hid h8;clear h1 h3 h5 h4 h8;have m0:((t:Int)=0)=False:=by simp;omega
 have m0b:((t:Int)==0)=false:=by simp;omega
 have m1:((t:Int)=1)=False:=by simp;omega
 have m1b:((t:Int)==1)=false:=by simp;omega
 have m2:((t:Int)=2)=False:=by simp;omega
 have m2b:((t:Int)==2)=false:=by simp;omega
 have m3:((t:Int)=3)=False:=by simp;omega
 have m3b:((t:Int)==3)=false:=by simp;omega
 have m4:((t:Int)=4)=False:=by simp;omega
 have m4b:((t:Int)==4)=false:=by simp;omega
 have m5:((t:Int)=5)=False:=by simp;omega
 have m5b:((t:Int)==5)=false:=by simp;omega
 have m6:((t:Int)=6)=False:=by simp;omega
 have m6b:((t:Int)==6)=false:=by simp;omega
 have m7:((t:Int)=7)=False:=by simp;omega
 have m7b:((t:Int)==7)=false:=by simp;omega
 have m8:((t:Int)=8)=True:=by simp;omega
 have m8b:((t:Int)==8)=true:=by simp;omega
 clear ht;go_enter Tryz.func82,Tryz.ntmps82;go_upto_region 1 with fail;obtain⟨X,hX,hq⟩:=q4_start W t f s (.slice A0 n0 c0) (infC i (.slice none 0 0) (.slice none 0 0));rw[hX];have HQ:=hid hq;clear hX hq;have x0:X.cell? ⟨W.heap.size,0,none⟩=some (.int .i64 (t:Nat)):=HQ.out.f.cell 0;have x1:X.cell? ⟨W.heap.size,1,none⟩=some (.int .i64 (f:Nat)):=HQ.out.f.cell 1;have x2:X.cell? ⟨W.heap.size,2,none⟩=some (.int .i64 (s:Nat)):=HQ.out.f.cell 2;have hd:=hid (refnum_any A n c p X _ ((HR.out.more hB).below HQ.out.b) (by have:=H8.out;omega));rw[hv]at hd;clear hv H8;go_wp2_with fail;refine hd.out.mono ?_;rintro e w1 ⟨rfl,hw⟩;subst w1;have g14:X.cell? ⟨W.heap.size+1,14,none⟩=some (.int .i64 (i.inc:Nat)):=HQ.out.i.cell 14;have fz14:=HQ.out.i.frozen 14;go_upto_region 34 with fail;have hi:=hid (show Q4 W (X.setCell ⟨W.heap.size+1,14,none⟩ (.int .i64 (lv8:Nat))) t f s (.slice A0 n0 c0) (infC {i with inc:=lv8} (.slice none 0 0) (.slice none 0 0)) (infC {} (.slice none 0 0) (.slice none 0 0)) (fltR 0 0 0)from HQ.out.put 14 (.int .i64 (lv8:Nat)));clear HQ;have HQ:=hi;clear hi g14 fz14 hd x0 x1 x2;generalize X.setCell ⟨W.heap.size+1,14,none⟩ (.int .i64 (lv8:Nat))=X at*
 have x2:X.cell? ⟨W.heap.size,2,none⟩=some (.int .i64 (s:Nat)):=HQ.out.f.cell 2;have g14:X.cell? ⟨W.heap.size+1,14,none⟩=some (.int .i64 (lv8:Nat)):=HQ.out.i.cell 14;by_cases hz:lv8=0
 · have he:=hid (show rd i0 p= .error (1,s)by rw[HH.out,if_pos hz])
   have z0:((lv8:Int)=0)=True:=by simp;omega
   have z1:((lv8:Int)==0)=true:=by simp;omega
   clear hz;go_wp2_with fail;refine(ofh2_any 1 s _).mono ?_;rintro e v1 ⟨rfl,hb⟩;have h6:=hid (Q4.below HQ.out hb);clear hb;go_wp2_with (first
    |(refine wpList_rowPut _ rfl _ _ 96 rfl (W.heap.size+2) 96 _ (infC {} (.slice none 0 0) (.slice none 0 0)) rfl rfl h6.out.r infSize5 rfl (infC_one _ _ _ _ _ _ _) ?_
      intro v2 hb hg;have h7:=hid (Q4.row h6.out hb hg);clear hb hg)
    |(refine wpList_rowPut _ rfl _ _ 98 rfl (W.heap.size+3) 98 _ (fltR 99 1 s) rfl rfl h7.out.z fltSize rfl (fltR_one _ _ _) ?_
      intro v3 hb hg;have h0:=hid (Q4.rowz h7.out hb hg);clear hb hg)
    |fail)
   exact bodyPost_ret (res67 Tryz.results82 _ _ _ _ _ _ _ (99,1,s) rfl rfl h0.out.r h0.out.z) rfl ⟨h0.out.b,by rw[he.out]⟩
 have z0:((lv8:Int)=0)=False:=by simp;omega
 have z1:((lv8:Int)==0)=false:=by simp;omega
 have hm:=hid (HH.out.trans (if_neg hz));clear hz;obtain⟨j9,h9⟩:∃j:Inf,j={i with inc:=lv8}:=⟨_,rfl⟩;rw[<-h9]at HQ;have he:=hid (show∃j,rd i0 p= .ok j/\j9.inc=j.inc/\j9.ack=j.ack from⟨_,hm.out,by rw[h9],by rw[h9];exact H5.out.symm⟩);clear h9;have hh:=hid (show∀Xe,Q4 W Xe t f s (.slice A0 n0 c0) (infC j9 (.slice none 0 0) (.slice none 0 0)) (infC j9 (.slice none 0 0) (.slice none 0 0)) (fltR 0 0 0)->SyPost W (rd i0 p) (.returned (.tuple #[.agg (infC j9 (.slice none 0 0) (.slice none 0 0)),.agg (fltR 0 0 0)])) Xe fromλXe h=>by
  obtain⟨j,hj,h1,h2⟩:=he.out;refine⟨h.b,?_⟩;rw[hj];exact⟨j9,none,0,0,none,0,0,rfl,h1,h2⟩)
 go_upto_region 39 with fail;refine wp_region_noPanic ?_;refine wp_region_held_drew (S:=(λW'=>Blk W' (W.heap.size+1) 96 (infC j9 (.slice none 0 0) (.slice none 0 0)))) (by kernel_rfl) HQ.out.i (λhHeld=>?_);refine tk 0 ?_ (v:=.agg (infC j9 (.slice none 0 0) (.slice none 0 0))) (hy:=by intro w ho;have hu:=load_row5 ho;simp[execOp];change(Result.andThen (Sem.run _ (Instr.loadAt _ (.pointer (some ⟨W.heap.size+1,0,none⟩))) w) _)=_;rw[hu];rfl);refine tkr 1 (λK hK=>?_);go_simp;go_at_call 122;with_reducible refine Calls.mono (HN.out _) ?_
 rintro e v1 ⟨rfl,hb⟩;have h6:=hid (Q4.below HQ.out.drew hb);clear hb;refine hK.out _ _ h6.out.i (λhHeld2=>?_);clear hHeld;have hHeld:=hHeld2;clear hHeld2 hK K
 (try simp only[Act.put,List.setIfInBounds_toArray,List.set_cons_zero,List.set_cons_succ])
 refine tkr 2 (λK hK=>?_);rw[if_pos (by rfl)];refine oper_rowPut _ _ _ 96 rfl (W.heap.size+2) 96 _ (infC j9 (.slice none 0 0) (.slice none 0 0)) rfl rfl h6.out.r infSize5 rfl (infC_one _ _ _ _ _ _ _) ?_;intro v2 hb hg;have h7:=hid (Q4.row h6.out hb hg);clear hb hg;refine hK.out _ _ h7.out.i (λhHeld2=>?_);clear hHeld;have hHeld:=hHeld2;clear hHeld2 hK K
 (try simp only[Act.put,List.setIfInBounds_toArray,List.set_cons_zero,List.set_cons_succ])
 refine tkr 3 (λK hK=>?_);rw[if_pos (by rfl)];refine oper_rowPut _ _ _ 98 rfl (W.heap.size+3) 98 _ (fltR 0 0 0) rfl rfl h7.out.z fltSize rfl (fltR_one _ _ _) ?_;intro v3 hb hg;have h0:=hid (Q4.rowz h7.out hb hg);clear hb hg;refine hK.out _ _ h0.out.i (λhHeld2=>?_);clear hHeld;have hHeld:=hHeld2;clear hHeld2 hK K
 (try simp only[Act.put,List.setIfInBounds_toArray,List.set_cons_zero,List.set_cons_succ])
 refine wpAnyH_done (by kernel_rfl) ?_ _;refine NoPanic.normal ?_;go_wp2;exact bodyPost_ret (res67 Tryz.results82 _ _ _ _ _ _ _ (0,0,0) rfl rfl h0.out.r h0.out.z) rfl (hh.out _ h0.out)
theorem says5_any (t f s:Nat) (A0:Option Addr) (n0 c0:Nat) (A:Option Addr) (n c B:Nat) (p:List UInt8) (i:Inf) (W:World) (hr:Rd W B A n p) (hB:B<=W.heap.size) (hc:n<=c) (hn:n<=100000) (hf:f<=255) (i0:Inf) (ht:t=5) (h1:i0.typ=t) (h4:i0.inc=i.inc) (h5:i0.ack=i.ack):
 Calls Tryz.prog 82 #[.agg #[.int .i64 (t:Nat),.int .i64 (f:Nat),.int .i64 (s:Nat),.slice A0 n0 c0],.agg (infC i (.slice none 0 0) (.slice none 0 0)),.slice A n c] W (SyPost W (rd i0 p)):=by
 have hl:=hr.1;have HN:=hid (λW=>fnone_any W);have HR:=hid hr;have hD:=hid hl;clear hr hl;have e4:bits .and .i64 (f:Int) 4=((f&&& 4:Nat):Int):=and_nat f 4 (by omega) (by omega);obtain⟨q4,hE⟩:∃q,f&&& 4=q:=⟨_,rfl⟩;rw[hE]at e4;obtain⟨b4,hH⟩:∃b,((q4:Int) != 0)=b:=⟨_,rfl⟩;obtain⟨v5,hv⟩:∃v,ofB 0 (p.take 4)=v:=⟨_,rfl⟩;have HH:=hid (show rd i0 p=if n<4 then .error (6,0)else if low v5=0 then .error (1,0)else .ok {i0 with promise:=low v5,data:=p.drop 4}by rw[rd_5 (h1.trans ht),hD.out,hv]);obtain⟨m51,m52⟩:=mod31 v5;obtain⟨lv5,h8⟩:∃m,low v5=m:=⟨_,rfl⟩;rw[h8]at m51 m52;rw[h8]at HH;have H4:=hid h4;have H5:=hid h5;clear h1 h4 h5 h8;have m0:((t:Int)=0)=False:=by simp;omega
 have m0b:((t:Int)==0)=false:=by simp;omega
 have m1:((t:Int)=1)=False:=by simp;omega
 have m1b:((t:Int)==1)=false:=by simp;omega
 have m2:((t:Int)=2)=False:=by simp;omega
 have m2b:((t:Int)==2)=false:=by simp;omega
 have m3:((t:Int)=3)=False:=by simp;omega
 have m3b:((t:Int)==3)=false:=by simp;omega
 have m4:((t:Int)=4)=False:=by simp;omega
 have m4b:((t:Int)==4)=false:=by simp;omega
 have m5:((t:Int)=5)=True:=by simp;omega
 have m5b:((t:Int)==5)=true:=by simp;omega
 clear ht;go_enter Tryz.func82,Tryz.ntmps82;go_upto_region 1 with fail;obtain⟨X,hX,hq⟩:=q4_start W t f s (.slice A0 n0 c0) (infC i (.slice none 0 0) (.slice none 0 0));rw[hX];have HQ:=hid hq;clear hX hq;have x0:X.cell? ⟨W.heap.size,0,none⟩=some (.int .i64 (t:Nat)):=HQ.out.f.cell 0;have x1:X.cell? ⟨W.heap.size,1,none⟩=some (.int .i64 (f:Nat)):=HQ.out.f.cell 1;have x2:X.cell? ⟨W.heap.size,2,none⟩=some (.int .i64 (s:Nat)):=HQ.out.f.cell 2;by_cases h4:n<4
 · have k4:((n:Int)<4)=True:=by simp;omega
   have h9:=hid (show rd i0 p= .error (6,0)by rw[HH.out,if_pos h4]);clear h4;go_wp2_with fail;refine(ofh2_any 6 0 _).mono ?_;rintro e v1 ⟨rfl,hb⟩;have h6:=hid (Q4.below HQ.out hb);clear hb;go_wp2_with (first
    |(refine wpList_rowPut _ rfl _ _ 96 rfl (W.heap.size+2) 96 _ (infC {} (.slice none 0 0) (.slice none 0 0)) rfl rfl h6.out.r infSize5 rfl (infC_one _ _ _ _ _ _ _) ?_
      intro v2 hb hg;have h7:=hid (Q4.row h6.out hb hg);clear hb hg)
    |(refine wpList_rowPut _ rfl _ _ 98 rfl (W.heap.size+3) 98 _ (fltR 99 6 0) rfl rfl h7.out.z fltSize rfl (fltR_one _ _ _) ?_
      intro v3 hb hg;have h0:=hid (Q4.rowz h7.out hb hg);clear hb hg)
    |fail)
   exact bodyPost_ret (res67 Tryz.results82 _ _ _ _ _ _ _ (99,6,0) rfl rfl h0.out.r h0.out.z) rfl ⟨h0.out.b,by rw[h9.out]⟩
 have k4:((n:Int)<4)=False:=by simp;omega
 have hk:=hid h4;have hm:=hid (HH.out.trans (if_neg h4));clear h4;have g4:X.cell? ⟨W.heap.size+1,4,none⟩=some (.bool i.endHeads):=HQ.out.i.cell 4;have fz4:=HQ.out.i.frozen 4;go_upto_region 21 with fail;have h3:=hid (show Q4 W (X.setCell ⟨W.heap.size+1,4,none⟩ (.bool b4)) t f s (.slice A0 n0 c0) (infC {i with endHeads:=b4} (.slice none 0 0) (.slice none 0 0)) (infC {} (.slice none 0 0) (.slice none 0 0)) (fltR 0 0 0)from HQ.out.put 4 (.bool b4));clear HQ;have HQ:=h3;clear h3 g4 fz4 x0 x1 x2;generalize X.setCell ⟨W.heap.size+1,4,none⟩ (.bool b4)=X at*
 obtain⟨A1,ho,he⟩:=cut_head byteP ((HR.out.more hB).below HQ.out.b) (4:Int) (k:=4) rfl (by have:=hk.out;omega) hc;have hh:=hid (refnum_any A1 4 c (p.take 4) X _ ho (by omega));rw[hv]at hh;clear hv ho;go_wp2_with fail;refine hh.out.mono ?_;rintro e w1 ⟨rfl,hw⟩;subst w1;have g15:X.cell? ⟨W.heap.size+1,15,none⟩=some (.int .i64 (i.promise:Nat)):=HQ.out.i.cell 15;have fz15:=HQ.out.i.frozen 15;go_upto_region 22 with fail;have h3:=hid (show Q4 W (X.setCell ⟨W.heap.size+1,15,none⟩ (.int .i64 (lv5:Nat))) t f s (.slice A0 n0 c0) (infC {i with endHeads:=b4,promise:=lv5} (.slice none 0 0) (.slice none 0 0)) (infC {} (.slice none 0 0) (.slice none 0 0)) (fltR 0 0 0)from HQ.out.put 15 (.int .i64 (lv5:Nat)));clear HQ;have HQ:=h3;clear h3 g15 fz15 hh he;generalize X.setCell ⟨W.heap.size+1,15,none⟩ (.int .i64 (lv5:Nat))=X at*
 obtain⟨A3,hu,hC⟩:=cut_from byteP HR.out (4:Int) (k:=4) rfl (by have:=hk.out;omega) hc;have hA:=hid (bytesE (c:=c-4) ((hu.more hB).below HQ.out.b) HQ.out.b.size (by omega));clear hu;obtain⟨j9,hd⟩:∃j:Inf,j={i with endHeads:=b4,promise:=lv5}:=⟨_,rfl⟩;rw[<-hd]at HQ;have HJ:=hid (show j9.promise=lv5/\j9.inc=i0.inc/\j9.ack=i0.ack from⟨by rw[hd],by rw[hd];exact H4.out.symm,by rw[hd];exact H5.out.symm⟩);clear hd;go_wp2_with fail;refine hA.out.mono ?_;rintro e w1 ⟨A7,n7,c7,rfl,hb⟩;have h3:=hid (Q4.below HQ.out hb);clear HQ hb hA;have HQ:=h3;clear h3;have g17:w1.cell? ⟨W.heap.size+1,17,none⟩=some (.slice none 0 0):=HQ.out.i.cell 17;have fz17:=HQ.out.i.frozen 17;go_upto_region 23 with fail;have h3:=hid (show Q4 W (w1.setCell ⟨W.heap.size+1,17,none⟩ (.slice A7 n7 c7)) t f s (.slice A0 n0 c0) (infC j9 (.slice none 0 0) (.slice A7 n7 c7)) (infC {} (.slice none 0 0) (.slice none 0 0)) (fltR 0 0 0)from HQ.out.put 17 (.slice A7 n7 c7));clear HQ g17 fz17;have HQ:=h3;clear h3;generalize w1.setCell ⟨W.heap.size+1,17,none⟩ (.slice A7 n7 c7)=X at*
 have g15:X.cell? ⟨W.heap.size+1,15,none⟩=some (.int .i64 (lv5:Nat)):=HJ.out.1▸HQ.out.i.cell 15;by_cases hz:lv5=0
 · have h9:=hid (show rd i0 p= .error (1,0)by rw[hm.out,if_pos hz])
   have z0:((lv5:Int)=0)=True:=by simp;omega
   have z1:((lv5:Int)==0)=true:=by simp;omega
   clear hz;go_wp2_with fail;refine(ofh2_any 1 0 _).mono ?_;rintro e v1 ⟨rfl,hb⟩;have h6:=hid (Q4.below HQ.out hb);clear hb;go_wp2_with (first
    |(refine wpList_rowPut _ rfl _ _ 96 rfl (W.heap.size+2) 96 _ (infC {} (.slice none 0 0) (.slice none 0 0)) rfl rfl h6.out.r infSize5 rfl (infC_one _ _ _ _ _ _ _) ?_
      intro v2 hb hg;have h7:=hid (Q4.row h6.out hb hg);clear hb hg)
    |(refine wpList_rowPut _ rfl _ _ 98 rfl (W.heap.size+3) 98 _ (fltR 99 1 0) rfl rfl h7.out.z fltSize rfl (fltR_one _ _ _) ?_
      intro v3 hb hg;have h0:=hid (Q4.rowz h7.out hb hg);clear hb hg)
    |fail)
   exact bodyPost_ret (res67 Tryz.results82 _ _ _ _ _ _ _ (99,1,0) rfl rfl h0.out.r h0.out.z) rfl ⟨h0.out.b,by rw[h9.out]⟩
 have z0:((lv5:Int)=0)=False:=by simp;omega
 have z1:((lv5:Int)==0)=false:=by simp;omega
 have h9:=hid (show∃j,rd i0 p= .ok j/\j9.inc=j.inc/\j9.ack=j.ack from⟨_,hm.out.trans (if_neg hz),HJ.out.2.1,HJ.out.2.2⟩);clear hz;have hi:=hid (show∀Xe,Q4 W Xe t f s (.slice A0 n0 c0) (infC j9 (.slice none 0 0) (.slice A7 n7 c7)) (infC j9 (.slice none 0 0) (.slice A7 n7 c7)) (fltR 0 0 0)->SyPost W (rd i0 p) (.returned (.tuple #[.agg (infC j9 (.slice none 0 0) (.slice A7 n7 c7)),.agg (fltR 0 0 0)])) Xe fromλXe h=>by
  obtain⟨j,hj,h1,h2⟩:=h9.out;refine⟨h.b,?_⟩;rw[hj];exact⟨j9,none,0,0,A7,n7,c7,rfl,h1,h2⟩)
 go_upto_region 39 with fail;refine wp_region_noPanic ?_;refine wp_region_held_drew (S:=(λW'=>Blk W' (W.heap.size+1) 96 (infC j9 (.slice none 0 0) (.slice A7 n7 c7)))) (by kernel_rfl) HQ.out.i (λhHeld=>?_);refine tk 0 ?_ (v:=.agg (infC j9 (.slice none 0 0) (.slice A7 n7 c7))) (hy:=by intro w hF;have hG:=load_row5 hF;simp[execOp];change(Result.andThen (Sem.run _ (Instr.loadAt _ (.pointer (some ⟨W.heap.size+1,0,none⟩))) w) _)=_;rw[hG];rfl);refine tkr 1 (λK hK=>?_);go_simp;go_at_call 122;with_reducible refine Calls.mono (HN.out _) ?_
 rintro e v1 ⟨rfl,hb⟩;have h6:=hid (Q4.below HQ.out.drew hb);clear hb;refine hK.out _ _ h6.out.i (λhHeld2=>?_);clear hHeld;have hHeld:=hHeld2;clear hHeld2 hK K
 (try simp only[Act.put,List.setIfInBounds_toArray,List.set_cons_zero,List.set_cons_succ])
 refine tkr 2 (λK hK=>?_);rw[if_pos (by rfl)];refine oper_rowPut _ _ _ 96 rfl (W.heap.size+2) 96 _ (infC j9 (.slice none 0 0) (.slice A7 n7 c7)) rfl rfl h6.out.r infSize5 rfl (infC_one _ _ _ _ _ _ _) ?_;intro v2 hb hg;have h7:=hid (Q4.row h6.out hb hg);clear hb hg;refine hK.out _ _ h7.out.i (λhHeld2=>?_);clear hHeld;have hHeld:=hHeld2;clear hHeld2 hK K
 (try simp only[Act.put,List.setIfInBounds_toArray,List.set_cons_zero,List.set_cons_succ])
 refine tkr 3 (λK hK=>?_);rw[if_pos (by rfl)];refine oper_rowPut _ _ _ 98 rfl (W.heap.size+3) 98 _ (fltR 0 0 0) rfl rfl h7.out.z fltSize rfl (fltR_one _ _ _) ?_;intro v3 hb hg;have h0:=hid (Q4.rowz h7.out hb hg);clear hb hg;refine hK.out _ _ h0.out.i (λhHeld2=>?_);clear hHeld;have hHeld:=hHeld2;clear hHeld2 hK K
 (try simp only[Act.put,List.setIfInBounds_toArray,List.set_cons_zero,List.set_cons_succ])
 refine wpAnyH_done (by kernel_rfl) ?_ _;refine NoPanic.normal ?_;go_wp2;exact bodyPost_ret (res67 Tryz.results82 _ _ _ _ _ _ _ (0,0,0) rfl rfl h0.out.r h0.out.z) rfl (hi.out _ h0.out)
theorem says2_any (t f s:Nat) (A0:Option Addr) (n0 c0:Nat) (A:Option Addr) (n c B:Nat) (p:List UInt8) (i:Inf) (W:World) (hr:Rd W B A n p) (hB:B<=W.heap.size) (hc:n<=c) (hn:n<=100000) (hf:f<=255) (i0:Inf) (ht:t=2) (h1:i0.typ=t) (h3:i0.stream=s) (h4:i0.inc=i.inc) (h5:i0.ack=i.ack) (h8:n=5):
 Calls Tryz.prog 82 #[.agg #[.int .i64 (t:Nat),.int .i64 (f:Nat),.int .i64 (s:Nat),.slice A0 n0 c0],.agg (infC i (.slice none 0 0) (.slice none 0 0)),.slice A n c] W (SyPost W (rd i0 p)):=by
 have hl:=hr.1;have HN:=hid (λW=>fnone_any W);have HR:=hid hr;have hm:=hid hl;clear hr hl;have HH:=hid (show rd i0 p=if(depI i0 p).dep=s then .error (1,s)else .ok (depI i0 p)by rw[rd_2 (h1.trans ht),if_pos (hm.out.trans h8),withDep_is,h3]);have H4:=hid h4;have H5:=hid h5;have H8:=hid h8;clear h1 h3 h4 h5 h8;have m0:((t:Int)=0)=False:=by simp;omega
 have m0b:((t:Int)==0)=false:=by simp;omega
 have m1:((t:Int)=1)=False:=by simp;omega
 have m1b:((t:Int)==1)=false:=by simp;omega
 have m2:((t:Int)=2)=True:=by simp;omega
 have m2b:((t:Int)==2)=true:=by simp;omega
 clear ht;go_enter Tryz.func82,Tryz.ntmps82;go_upto_region 1 with fail;obtain⟨X,hX,hq⟩:=q4_start W t f s (.slice A0 n0 c0) (infC i (.slice none 0 0) (.slice none 0 0));rw[hX];have HQ:=hid hq;clear hX hq;have x0:X.cell? ⟨W.heap.size,0,none⟩=some (.int .i64 (t:Nat)):=HQ.out.f.cell 0;have x1:X.cell? ⟨W.heap.size,1,none⟩=some (.int .i64 (f:Nat)):=HQ.out.f.cell 1;have x2:X.cell? ⟨W.heap.size,2,none⟩=some (.int .i64 (s:Nat)):=HQ.out.f.cell 2;have hi:=hid (rprio_any i none none 0 0 0 0 A n c W.heap.size p X ((HR.out.more hB).below HQ.out.b) HQ.out.b.size hc (by have:=H8.out;omega));clear H8;go_wp2_with (first
  |(refine wpList_rowGet _ rfl _ 96 rfl (W.heap.size+1) 96 _ rfl HQ.out.i _ Tryz.underlying96 rfl infSize5 ?_)
  |fail)
 refine hi.out.mono ?_;rintro e w1 ⟨j9,rfl,hb,h1,h2,h3⟩;have hk:=hid (Q4.below HQ.out hb);have HJ:=hid (show _/\_/\_ from⟨h1,h2,h3⟩);clear HQ hi hb h1 h2 h3 x0 x1 x2;go_upto_region 11 with(first
  |(refine wpList_rowPut _ rfl _ _ 96 rfl (W.heap.size+1) 96 _ (infC j9 (.slice none 0 0) (.slice none 0 0)) rfl rfl hk.out.i infSize5 rfl (infC_one _ _ _ _ _ _ _) ?_
    intro X hb hg;have HQ:=hid (Q4.rowi hk.out hb hg);clear hb hg;have x2:X.cell? ⟨W.heap.size,2,none⟩=some (.int .i64 (s:Nat)):=HQ.out.f.cell 2;have g10:X.cell? ⟨W.heap.size+1,10,none⟩=some (.int .i64 (j9.dep:Nat)):=HQ.out.i.cell 10)
  |fail)
 by_cases hd:(depI i0 p).dep=s
 · have h9:j9.dep=s:=HJ.out.2.2.trans hd
   have he:=hid (show rd i0 p= .error (1,s)by rw[HH.out,if_pos hd]);rw[h9]at g10;clear hd h9;go_wp2_with fail;refine(ofh2_any 1 s _).mono ?_;rintro e v1 ⟨rfl,hb⟩;have h6:=hid (Q4.below HQ.out hb);clear hb;go_wp2_with (first
    |(refine wpList_rowPut _ rfl _ _ 96 rfl (W.heap.size+2) 96 _ (infC {} (.slice none 0 0) (.slice none 0 0)) rfl rfl h6.out.r infSize5 rfl (infC_one _ _ _ _ _ _ _) ?_
      intro v2 hb hg;have h7:=hid (Q4.row h6.out hb hg);clear hb hg)
    |(refine wpList_rowPut _ rfl _ _ 98 rfl (W.heap.size+3) 98 _ (fltR 99 1 s) rfl rfl h7.out.z fltSize rfl (fltR_one _ _ _) ?_
      intro v3 hb hg;have h0:=hid (Q4.rowz h7.out hb hg);clear hb hg)
    |fail)
   exact bodyPost_ret (res67 Tryz.results82 _ _ _ _ _ _ _ (99,1,s) rfl rfl h0.out.r h0.out.z) rfl ⟨h0.out.b,by rw[he.out]⟩
 have h9:¬j9.dep=s:=λe=>hd (HJ.out.2.2.symm.trans e);have hw:((j9.dep:Int)=(s:Int))=False:=by simp;omega
 have hA:((j9.dep:Int)==(s:Int))=false:=by simp;omega
 have he:=hid (show∃j,rd i0 p= .ok j/\j9.inc=j.inc/\j9.ack=j.ack from⟨depI i0 p,by rw[HH.out,if_neg hd],HJ.out.1.trans H4.out.symm,HJ.out.2.1.trans H5.out.symm⟩);clear hd h9;have hh:=hid (show∀Xe,Q4 W Xe t f s (.slice A0 n0 c0) (infC j9 (.slice none 0 0) (.slice none 0 0)) (infC j9 (.slice none 0 0) (.slice none 0 0)) (fltR 0 0 0)->SyPost W (rd i0 p) (.returned (.tuple #[.agg (infC j9 (.slice none 0 0) (.slice none 0 0)),.agg (fltR 0 0 0)])) Xe fromλXe h=>by
  obtain⟨j,hj,h1,h2⟩:=he.out;refine⟨h.b,?_⟩;rw[hj];exact⟨j9,none,0,0,none,0,0,rfl,h1,h2⟩)
 go_upto_region 39 with fail;refine wp_region_noPanic ?_;refine wp_region_held_drew (S:=(λW'=>Blk W' (W.heap.size+1) 96 (infC j9 (.slice none 0 0) (.slice none 0 0)))) (by kernel_rfl) HQ.out.i (λhHeld=>?_);refine tk 0 ?_ (v:=.agg (infC j9 (.slice none 0 0) (.slice none 0 0))) (hy:=by intro w ho;have hu:=load_row5 ho;simp[execOp];change(Result.andThen (Sem.run _ (Instr.loadAt _ (.pointer (some ⟨W.heap.size+1,0,none⟩))) w) _)=_;rw[hu];rfl);refine tkr 1 (λK hK=>?_);go_simp;go_at_call 122;with_reducible refine Calls.mono (HN.out _) ?_
 rintro e v1 ⟨rfl,hb⟩;have h6:=hid (Q4.below HQ.out.drew hb);clear hb;refine hK.out _ _ h6.out.i (λhHeld2=>?_);clear hHeld;have hHeld:=hHeld2;clear hHeld2 hK K
 (try simp only[Act.put,List.setIfInBounds_toArray,List.set_cons_zero,List.set_cons_succ])
 refine tkr 2 (λK hK=>?_);rw[if_pos (by rfl)];refine oper_rowPut _ _ _ 96 rfl (W.heap.size+2) 96 _ (infC j9 (.slice none 0 0) (.slice none 0 0)) rfl rfl h6.out.r infSize5 rfl (infC_one _ _ _ _ _ _ _) ?_;intro v2 hb hg;have h7:=hid (Q4.row h6.out hb hg);clear hb hg;refine hK.out _ _ h7.out.i (λhHeld2=>?_);clear hHeld;have hHeld:=hHeld2;clear hHeld2 hK K
 (try simp only[Act.put,List.setIfInBounds_toArray,List.set_cons_zero,List.set_cons_succ])
 refine tkr 3 (λK hK=>?_);rw[if_pos (by rfl)];refine oper_rowPut _ _ _ 98 rfl (W.heap.size+3) 98 _ (fltR 0 0 0) rfl rfl h7.out.z fltSize rfl (fltR_one _ _ _) ?_;intro v3 hb hg;have h0:=hid (Q4.rowz h7.out hb hg);clear hb hg;refine hK.out _ _ h0.out.i (λhHeld2=>?_);clear hHeld;have hHeld:=hHeld2;clear hHeld2 hK K
 (try simp only[Act.put,List.setIfInBounds_toArray,List.set_cons_zero,List.set_cons_succ])
 refine wpAnyH_done (by kernel_rfl) ?_ _;refine NoPanic.normal ?_;go_wp2;exact bodyPost_ret (res67 Tryz.results82 _ _ _ _ _ _ _ (0,0,0) rfl rfl h0.out.r h0.out.z) rfl (hh.out _ h0.out)
theorem SyPost.shape {W w:World} {r:Except (Nat×Nat) Inf} {e:Ending} (h:SyPost W r e w):∃(i:Inf) (A:Option Addr) (n c:Nat) (A':Option Addr) (n' c':Nat) (z:Nat×Nat×Nat),
 e= .returned (.tuple #[.agg (infC i (.slice A n c) (.slice A' n' c')),.agg (fltR z.1 z.2.1 z.2.2)])/\Below W.heap.size W w/\∀W0 w',Below W0.heap.size W0 w'->SyPost W0 r (.returned (.tuple #[.agg (infC i (.slice A n c) (.slice A' n' c')),.agg (fltR z.1 z.2.1 z.2.2)])) w':=by
 obtain⟨hb,h⟩:=h;cases r with
 |ok j=>
  obtain⟨i,A,n,c,A',n',c',rfl,h1,h2⟩:=h;exact⟨i,A,n,c,A',n',c',(0,0,0),rfl,hb,λW0 w' h=>⟨h,i,A,n,c,A',n',c',rfl,h1,h2⟩⟩
 |error x=>
  obtain rfl:=h;exact⟨{},none,0,0,none,0,0,(99,x.1,x.2),rfl,hb,λW0 w' h=>⟨h,rfl⟩⟩
theorem says1_any (t f s:Nat) (A0:Option Addr) (n0 c0:Nat) (A:Option Addr) (n c B:Nat) (p:List UInt8) (i:Inf) (W:World) (hr:Rd W B A n p) (hB:B<=W.heap.size) (hc:n<=c) (hn:n<=100000) (hf:f<=255) (i0:Inf) (ht:t=1) (h1:i0.typ=t) (h2:i0.prio=(f&&& 32 != 0)) (h3:i0.stream=s) (h4:i0.inc=i.inc) (h5:i0.ack=i.ack):
 Calls Tryz.prog 82 #[.agg #[.int .i64 (t:Nat),.int .i64 (f:Nat),.int .i64 (s:Nat),.slice A0 n0 c0],.agg (infC i (.slice none 0 0) (.slice none 0 0)),.slice A n c] W (SyPost W (rd i0 p)):=by
 have hl:=hr.1;have HR:=hid hr;clear hr hl;have HH:=hid (show _/\_/\_/\_/\_ from⟨h1.trans ht,h2,h3,h4,h5⟩);clear h1 h2 h3 h4 h5;have m0:((t:Int)=0)=False:=by simp;omega
 have m0b:((t:Int)==0)=false:=by simp;omega
 have m1:((t:Int)=1)=True:=by simp;omega
 have m1b:((t:Int)==1)=true:=by simp;omega
 clear ht;go_enter Tryz.func82,Tryz.ntmps82;go_upto_region 1 with fail;obtain⟨X,hX,hq⟩:=q4_start W t f s (.slice A0 n0 c0) (infC i (.slice none 0 0) (.slice none 0 0));rw[hX];have HQ:=hid hq;clear hX hq;have x0:X.cell? ⟨W.heap.size,0,none⟩=some (.int .i64 (t:Nat)):=HQ.out.f.cell 0;have x1:X.cell? ⟨W.heap.size,1,none⟩=some (.int .i64 (f:Nat)):=HQ.out.f.cell 1;have x2:X.cell? ⟨W.heap.size,2,none⟩=some (.int .i64 (s:Nat)):=HQ.out.f.cell 2;have x3:X.cell? ⟨W.heap.size,3,none⟩=some (.slice A0 n0 c0):=HQ.out.f.cell 3;have h6:=hid (rheads_any t f s A0 n0 c0 A n c W.heap.size p i none none 0 0 0 0 X ((HR.out.more hB).below HQ.out.b) HQ.out.b.size hc (by omega) hf i0 HH.out.1 HH.out.2.1 HH.out.2.2.1 HH.out.2.2.2.1 HH.out.2.2.2.2);clear HH;go_wp2_with (first
  |(refine wpList_rowGet _ rfl _ 96 rfl (W.heap.size+1) 96 _ rfl HQ.out.i _ Tryz.underlying96 rfl infSize5 ?_)
  |fail)
 refine h6.out.mono ?_;intro e w1 h7;obtain⟨j9,A8,n8,c8,A9,n9,c9,z,rfl,hb,hs⟩:=h7.shape;have h8:=hid (Q4.below HQ.out hb);have hd:=hid hs;clear h7 hb hs HQ h6 x0 x1 x2 x3;go_wp2_with (first
  |(refine wpList_rowPut _ rfl _ _ 96 rfl (W.heap.size+2) 96 _ (infC j9 (.slice A8 n8 c8) (.slice A9 n9 c9)) rfl rfl h8.out.r infSize5 rfl (infC_one _ _ _ _ _ _ _) ?_
    intro v2 hb hg;have h9:=hid (Q4.row h8.out hb hg);clear hb hg)
  |(refine wpList_rowPut _ rfl _ _ 98 rfl (W.heap.size+3) 98 _ (fltR z.1 z.2.1 z.2.2) rfl rfl h9.out.z fltSize rfl (fltR_one _ _ _) ?_
    intro v3 hb hg;have h0:=hid (Q4.rowz h9.out hb hg);clear hb hg)
  |fail)
 exact bodyPost_ret (res67 Tryz.results82 _ _ _ _ _ _ _ z rfl rfl h0.out.r h0.out.z) rfl (hd.out _ _ h0.out.b)
theorem says4_any (t f s:Nat) (A0:Option Addr) (n0 c0:Nat) (A:Option Addr) (n c B:Nat) (p:List UInt8) (i:Inf) (W:World) (hr:Rd W B A n p) (hB:B<=W.heap.size) (hc:n<=c) (hn:n<=100000) (hf:f<=255) (i0:Inf) (ht:t=4) (h1:i0.typ=t) (h4:i0.inc=i.inc) (h5:i0.ack=(f&&& 1 != 0)) (h8:¬(i0.ack=true/\0<n)/\n % 6=0):
 Calls Tryz.prog 82 #[.agg #[.int .i64 (t:Nat),.int .i64 (f:Nat),.int .i64 (s:Nat),.slice A0 n0 c0],.agg (infC i (.slice none 0 0) (.slice none 0 0)),.slice A n c] W (SyPost W (rd i0 p)):=by
 have hl:=hr.1;have HR:=hid hr;have he:=hid hl;clear hr hl;have h2:=hid (show SetRes i0 {i with ack:=(f&&& 1 != 0)} p p from by
  have h3:rd i0 p=match setsOf p with
   | .ok l=>.ok {i0 with sets:=l}
   | .error x=>.error x:=by rw[rd_4 (h1.trans ht),if_neg (by rw[he.out];rintro(h|h);exact h8.1 h;exact h h8.2)]
  exact⟨λx hx=>by rw[h3,hx],λl hl=>⟨{i0 with sets:=l},by rw[h3,hl],h4.symm,h5.symm⟩⟩)
 have H8:=hid h8.2;clear h1 h4 h5 h8;have m0:((t:Int)=0)=False:=by simp;omega
 have m0b:((t:Int)==0)=false:=by simp;omega
 have m1:((t:Int)=1)=False:=by simp;omega
 have m1b:((t:Int)==1)=false:=by simp;omega
 have m2:((t:Int)=2)=False:=by simp;omega
 have m2b:((t:Int)==2)=false:=by simp;omega
 have m3:((t:Int)=3)=False:=by simp;omega
 have m3b:((t:Int)==3)=false:=by simp;omega
 have m4:((t:Int)=4)=True:=by simp;omega
 have m4b:((t:Int)==4)=true:=by simp;omega
 clear ht;go_enter Tryz.func82,Tryz.ntmps82;go_upto_region 1 with fail;obtain⟨X,hX,hq⟩:=q4_start W t f s (.slice A0 n0 c0) (infC i (.slice none 0 0) (.slice none 0 0));rw[hX];have HQ:=hid hq;clear hX hq;have x0:X.cell? ⟨W.heap.size,0,none⟩=some (.int .i64 (t:Nat)):=HQ.out.f.cell 0;have x1:X.cell? ⟨W.heap.size,1,none⟩=some (.int .i64 (f:Nat)):=HQ.out.f.cell 1;have x2:X.cell? ⟨W.heap.size,2,none⟩=some (.int .i64 (s:Nat)):=HQ.out.f.cell 2;have x3:X.cell? ⟨W.heap.size,3,none⟩=some (.slice A0 n0 c0):=HQ.out.f.cell 3;have h6:=hid (rsettings_any t f s A0 n0 c0 A n c W.heap.size p i none 0 0 X ((HR.out.more hB).below HQ.out.b) HQ.out.b.size hc hn hf H8.out i0 h2.out);clear h2 H8;go_wp2_with (first
  |(refine wpList_rowGet _ rfl _ 96 rfl (W.heap.size+1) 96 _ rfl HQ.out.i _ Tryz.underlying96 rfl infSize5 ?_)
  |fail)
 refine h6.out.mono ?_;intro e w1 h7;obtain⟨j9,A8,n8,c8,A9,n9,c9,z,rfl,hb,hs⟩:=h7.shape;have h9:=hid (Q4.below HQ.out hb);have hh:=hid hs;clear h7 hb hs HQ h6 x0 x1 x2 x3;go_wp2_with (first
  |(refine wpList_rowPut _ rfl _ _ 96 rfl (W.heap.size+2) 96 _ (infC j9 (.slice A8 n8 c8) (.slice A9 n9 c9)) rfl rfl h9.out.r infSize5 rfl (infC_one _ _ _ _ _ _ _) ?_
    intro v2 hb hg;have hd:=hid (Q4.row h9.out hb hg);clear hb hg)
  |(refine wpList_rowPut _ rfl _ _ 98 rfl (W.heap.size+3) 98 _ (fltR z.1 z.2.1 z.2.2) rfl rfl hd.out.z fltSize rfl (fltR_one _ _ _) ?_
    intro v3 hb hg;have h0:=hid (Q4.rowz hd.out hb hg);clear hb hg)
  |fail)
 exact bodyPost_ret (res67 Tryz.results82 _ _ _ _ _ _ _ z rfl rfl h0.out.r h0.out.z) rfl (hh.out _ _ h0.out.b)
theorem says_any (t f s:Nat) (A0:Option Addr) (n0 c0:Nat) (A:Option Addr) (n c B:Nat) (p:List UInt8) (i:Inf) (W:World) (hr:Rd W B A n p) (hB:B<=W.heap.size) (hc:n<=c) (hn:n<=100000) (hf:f<=255) (i0:Inf) (h1:i0.typ=t) (h2:t=1->i0.prio=(f&&& 32 != 0)) (h3:i0.stream=s) (h4:i0.inc=i.inc) (h5:i0.ack=if t=4\/t=6 then f&&& 1 != 0 else i.ack) (hz:sizF t f s n=none):
 Calls Tryz.prog 82 #[.agg #[.int .i64 (t:Nat),.int .i64 (f:Nat),.int .i64 (s:Nat),.slice A0 n0 c0],.agg (infC i (.slice none 0 0) (.slice none 0 0)),.slice A n c] W (SyPost W (rd i0 p)):=by
 rcases ten t with h|h|h|h|h|h|h|h|h|h|h
 · exact says0_any t f s A0 n0 c0 A n c B p i W hr hB hc hn hf i0 h h1 h4 (by rw[h5,if_neg (by omega)])
 · exact says1_any t f s A0 n0 c0 A n c B p i W hr hB hc hn hf i0 h h1 (h2 h) h3 h4 (by rw[h5,if_neg (by omega)])
 · exact says2_any t f s A0 n0 c0 A n c B p i W hr hB hc hn hf i0 h h1 h3 h4 (by rw[h5,if_neg (by omega)]) (by subst h;unfold sizF at hz;simp at hz;omega)
 · exact says3_any t f s A0 n0 c0 A n c B p i W hr hB hc hn hf i0 h h1 h4 (by rw[h5,if_neg (by omega)]) (by subst h;unfold sizF at hz;simp at hz;omega)
 · refine says4_any t f s A0 n0 c0 A n c B p i W hr hB hc hn hf i0 h h1 h4 (by rw[h5,if_pos (by omega)]) ?_
   rw[h5,if_pos (Or.inl h)];subst h;unfold sizF at hz;simp at hz ⊢;obtain⟨h0,h6⟩:=hz;have hb:f&&& 1<2:=Nat.lt_of_le_of_lt Nat.and_le_right (by omega);refine⟨λhne=>?_,h6⟩;have:=h0 (by omega);omega
 · exact says5_any t f s A0 n0 c0 A n c B p i W hr hB hc hn hf i0 h h1 h4 (by rw[h5,if_neg (by omega)])
 · exact says6_any t f s A0 n0 c0 A n c B p i W hr hB hc hn hf i0 h h1 h4 (by rw[h5,if_pos (by omega)]) (by subst h;unfold sizF at hz;simp at hz;omega)
 · exact says7_any t f s A0 n0 c0 A n c B p i W hr hB hc hn hf i0 h h1 h4 (by rw[h5,if_neg (by omega)]) (by subst h;unfold sizF at hz;simp at hz;omega)
 · exact says8_any t f s A0 n0 c0 A n c B p i W hr hB hc hn hf i0 h h1 h3 (by rw[h5,if_neg (by omega)]) (by subst h;unfold sizF at hz;simp at hz;omega)
 · exact says9_any t f s A0 n0 c0 A n c B p i W hr hB hc hn hf i0 h h1 h4 (by rw[h5,if_neg (by omega)])
 · exact saysX_any t f s A0 n0 c0 A n c B p i W hr hB hc hn hf i0 h h1 h4 (by rw[h5,if_neg (by omega)])
end Go.Proofs.YtkpppjhbmnfmkaaGreatDoor
end
