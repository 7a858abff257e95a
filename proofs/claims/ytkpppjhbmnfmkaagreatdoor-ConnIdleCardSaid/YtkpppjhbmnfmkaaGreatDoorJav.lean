/-
  
  
-/
import Derived.Test.YtkpppjhbmnfmkaaGreatDoorYu
set_option linter.unusedSimpArgs false
set_option linter.unusedVariables false
section
set_option maxHeartbeats 16000000
set_option maxRecDepth 100000
namespace Go.Proofs.YtkpppjhbmnfmkaaGreatDoor
open Lib (hid)
open Go.RowKit Go.Own Go.Own.Fr Go.Own.Im
attribute [local go_sem] Oper.semAt_some
theorem O4.row {W X Y:World} {t f s:Nat} {v:Value} {cr z ci:Array Value} {g:Nat} {ty:TypeId} (h:O4 W X t f s v cr z g ty ci) {cs:Array Value} (hb:Blk Y (W.heap.size+1) 96 cs) (hg:X.grownBy Y (some (W.heap.size+1))):O4 W Y t f s v cs z g ty ci:=
 have h3:=h.g
 ⟨h.o.row hb hg,h.i.grown hg (λe=>by injection e with e;omega),h3⟩
theorem O4.rowz {W X Y:World} {t f s:Nat} {v:Value} {cr z ci:Array Value} {g:Nat} {ty:TypeId} (h:O4 W X t f s v cr z g ty ci) {cs:Array Value} (hb:Blk Y (W.heap.size+2) 98 cs) (hg:X.grownBy Y (some (W.heap.size+2))):O4 W Y t f s v cr cs g ty ci:=
 have h3:=h.g
 ⟨h.o.rowz hb hg,h.i.grown hg (λe=>by injection e with e;omega),h3⟩
theorem ropen_any (t f s:Nat) (A:Option Addr) (n c B:Nat) (p:List UInt8) (W:World) (hr:Rd W B A n p) (hB:B<=W.heap.size) (hc:n<=c) (hn:n<=100000) (hf:f<=255):
 Calls Tryz.prog 45 #[.agg #[.int .i64 (t:Nat),.int .i64 (f:Nat),.int .i64 (s:Nat),.slice A n c]] W (SyPost W (opn t f s p)):=by
 have hl:=hr.1;have hE:=hid (show∀X,_ fromλX=>rstream_any t X);have hF:=hid (show∀X,_ fromλX=>rsizes_any t f s A n c X hf (by omega));have hG:=hid (show∀X,_ fromλX=>rpads_any t X);obtain⟨z0,z1,z2,hz,hH⟩:=flt_let (sizF t f s n);simp only[hz]at hF;have hU:=hid hH;have h9:=opn_str t f s p;obtain⟨sw,hI⟩:∃x,strW t=x:=⟨_,rfl⟩;simp only[hI]at hE h9;obtain⟨pd,hj⟩:∃x,decide (t=0\/t=1\/t=5)=x:=⟨_,rfl⟩;simp only[hj]at hG;have e8:bits .and .i64 (f:Int) 8=((f&&& 8:Nat):Int):=and_nat f 8 (by omega) (by omega);obtain⟨q8,ht⟩:∃q,f&&& 8=q:=⟨_,rfl⟩;rw[ht]at e8;obtain⟨b8,hV⟩:∃b,((q8:Int) != 0)=b:=⟨_,rfl⟩;have hd:=hid (show hasF t f 8=(pd&&b8)/\(pd=true->t=0\/t=1\/t=5)from⟨by rw[has8,hj,ht,<-hV];congr 1;rw[Bool.eq_iff_iff];simp,λh=>by rw[<-hj]at h;exact of_decide_eq_true h⟩);have HR:=hid hr;have he:=hid hl;clear hr hl hz hH hI hj ht;go_enter Tryz.func45,Tryz.ntmps45;go_upto_region 1 with fail;obtain⟨X,hX,hJ,hL,hN,hO⟩:=o4_start W t f s (.slice A n c);rw[hX];have HQ:=hid (show O3 W X t f s (.slice A n c) (infC {} (.slice none 0 0) (.slice none 0 0)) (fltR 0 0 0)from⟨hJ,hL,hN,hO⟩);clear hX hJ hL hN hO;have x0:X.cell? ⟨W.heap.size,0,none⟩=some (.int .i64 (t:Nat)):=HQ.out.f.cell 0;have x1:X.cell? ⟨W.heap.size,1,none⟩=some (.int .i64 (f:Nat)):=HQ.out.f.cell 1;have x2:X.cell? ⟨W.heap.size,2,none⟩=some (.int .i64 (s:Nat)):=HQ.out.f.cell 2;have x3:X.cell? ⟨W.heap.size,3,none⟩=some (.slice A n c):=HQ.out.f.cell 3;go_wp2_with fail;refine(hE.out X).mono ?_;rintro e w1 ⟨rfl,hw⟩;subst w1;rcases h9 with⟨h1,h2,h3⟩|⟨h1,h2,h3⟩|⟨h1,h2,h3⟩|⟨h1,h2,h3⟩|⟨h1,h3⟩
 · have h6:=hid h3
   have s1a:(sw=1)=True:=by simp;omega
   have s1b:(sw==1)=true:=by simp;omega
   have s0a:(sw=0)=False:=by simp;omega
   have s0b:(sw==0)=false:=by simp;omega
   have ssa:((s:Int)=0)=True:=by simp;omega
   have ssb:((s:Int)==0)=true:=by simp;omega
   clear h1 h2 h3;go_wp2_with fail;refine(ofh2_any 1 0 _).mono ?_;rintro e v1 ⟨rfl,hb⟩;have h5:=hid (O3.below HQ.out hb);clear hb;go_wp2_with (first
    |(refine wpList_rowPut _ rfl _ _ 96 rfl (W.heap.size+1) 96 _ (infC {} (.slice none 0 0) (.slice none 0 0)) rfl rfl h5.out.r infSize5 rfl (infC_one _ _ _ _ _ _ _) ?_
      intro v2 hb hg;have h4:=hid (O3.row h5.out hb hg);clear hb hg)
    |(refine wpList_rowPut _ rfl _ _ 98 rfl (W.heap.size+2) 98 _ (fltR 99 1 0) rfl rfl h4.out.z fltSize rfl (fltR_one _ _ _) ?_
      intro v3 hb hg;have h0:=hid (O3.rowz h4.out hb hg);clear hb hg)
    |fail)
   exact bodyPost_ret (res23 Tryz.results45 _ _ _ _ _ _ _ (99,1,0) rfl rfl h0.out.r h0.out.z) rfl ⟨h0.out.b,by rw[h6.out]⟩
 · have h6:=hid h3
   have s1a:(sw=1)=False:=by simp;omega
   have s1b:(sw==1)=false:=by simp;omega
   have s0a:(sw=0)=True:=by simp;omega
   have s0b:(sw==0)=true:=by simp;omega
   have ssa:((s:Int)=0)=False:=by simp;omega
   have ssb:((s:Int)==0)=false:=by simp;omega
   clear h1 h2 h3;go_wp2_with fail;refine(ofh2_any 1 0 _).mono ?_;rintro e v1 ⟨rfl,hb⟩;have h5:=hid (O3.below HQ.out hb);clear hb;go_wp2_with (first
    |(refine wpList_rowPut _ rfl _ _ 96 rfl (W.heap.size+1) 96 _ (infC {} (.slice none 0 0) (.slice none 0 0)) rfl rfl h5.out.r infSize5 rfl (infC_one _ _ _ _ _ _ _) ?_
      intro v2 hb hg;have h4:=hid (O3.row h5.out hb hg);clear hb hg)
    |(refine wpList_rowPut _ rfl _ _ 98 rfl (W.heap.size+2) 98 _ (fltR 99 1 0) rfl rfl h4.out.z fltSize rfl (fltR_one _ _ _) ?_
      intro v3 hb hg;have h0:=hid (O3.rowz h4.out hb hg);clear hb hg)
    |fail)
   exact bodyPost_ret (res23 Tryz.results45 _ _ _ _ _ _ _ (99,1,0) rfl rfl h0.out.r h0.out.z) rfl ⟨h0.out.b,by rw[h6.out]⟩
 have h6:=hid h3;have s1a:(sw=1)=True:=by simp;omega
 have s1b:(sw==1)=true:=by simp;omega
 have s0a:(sw=0)=False:=by simp;omega
 have s0b:(sw==0)=false:=by simp;omega
 have ssa:((s:Int)=0)=False:=by simp;omega
 have ssb:((s:Int)==0)=false:=by simp;omega
 clear h1 h2 h3;rotate_left;have h6:=hid h3;have s1a:(sw=1)=False:=by simp;omega
 have s1b:(sw==1)=false:=by simp;omega
 have s0a:(sw=0)=True:=by simp;omega
 have s0b:(sw==0)=true:=by simp;omega
 have ssa:((s:Int)=0)=True:=by simp;omega
 have ssb:((s:Int)==0)=true:=by simp;omega
 clear h1 h2 h3;rotate_left;have h6:=hid h3;have s1a:(sw=1)=False:=by simp;omega
 have s1b:(sw==1)=false:=by simp;omega
 have s0a:(sw=0)=False:=by simp;omega
 have s0b:(sw==0)=false:=by simp;omega
 clear h1 h3;rotate_left;all_goals
  go_wp2_with fail;refine(hF.out X).mono ?_;rintro e w1 ⟨rfl,hb⟩;have hW:=hid (O3.below HQ.out hb);clear HQ hb x0 x1 x2 x3;go_upto_region 5 with(first
   |(refine wpList_rowPut _ rfl _ _ 98 rfl w1.heap.size 98 _ (fltR z0 z1 z2) rfl rfl (Blk.new w1 _ _) fltSize rfl (fltR_one _ _ _) ?_
     intro X hb hg;have HQ:=hid (hW.out.fresh hb hg);have u0:X.cell? ⟨w1.heap.size,0,none⟩=some (.int .i64 (z0:Nat)):=HQ.out.i.cell 0;clear hb hg)
   |fail)
  rcases hU.out with⟨hk,hh⟩|⟨hk,hh⟩
  rotate_left
  · have hD:=hid (h6.out.trans (siz_bad hh he.out))
    have hY:=hid hk;have ka:((z0:Int)=0)=False:=by simp;omega
    have kb:((z0:Int)==0)=false:=by simp;omega
    clear hk hh;go_upto_region 6 with fail;clear ka kb u0;refine wp_region_noPanic ?_;refine wp_region_held_drew (S:=(λW'=>Blk W' w1.heap.size 98 (fltR z0 z1 z2))) (by kernel_rfl) HQ.out.i (λhHeld=>?_);refine tk 0 ?_;refine tk 1 ?_ (v:=.agg (fltR z0 z1 z2)) (hy:=by intro w hZ;have H0:=load_rowF hZ;simp[execOp];change(Result.andThen (Sem.run _ (Instr.loadAt _ (.pointer (some ⟨w1.heap.size,0,none⟩))) w) _)=_;rw[H0];rfl);refine tkr 2 (λK hK=>?_);rw[if_pos (by rfl)];refine oper_rowPut _ _ _ 96 rfl (W.heap.size+1) 96 _ (infC {} (.slice none 0 0) (.slice none 0 0)) rfl rfl HQ.out.drew.o.r infSize5 rfl (infC_one _ _ _ _ _ _ _) ?_;intro v2 hb hg;have h4:=hid (O4.row HQ.out.drew hb hg);clear hb hg;refine hK.out _ _ h4.out.i (λhHeld2=>?_);clear hHeld;have hHeld:=hHeld2;clear hHeld2 hK K
    (try simp only[Act.put,List.setIfInBounds_toArray,List.set_cons_zero,List.set_cons_succ])
    refine tkr 3 (λK hK=>?_);rw[if_pos (by rfl)];refine oper_rowPut _ _ _ 98 rfl (W.heap.size+2) 98 _ (fltR z0 z1 z2) rfl rfl h4.out.o.z fltSize rfl (fltR_one _ _ _) ?_;intro v3 hb hg;have h0:=hid (O4.rowz h4.out hb hg);clear hb hg;refine hK.out _ _ h0.out.i (λhHeld2=>?_);clear hHeld;have hHeld:=hHeld2;clear hHeld2 hK K
    (try simp only[Act.put,List.setIfInBounds_toArray,List.set_cons_zero,List.set_cons_succ])
    refine wpAnyH_done (by kernel_rfl) ?_ _;refine NoPanic.normal ?_;go_wp2;exact bodyPost_ret (res23 Tryz.results45 _ _ _ _ _ _ _ (z0,z1,z2) rfl rfl h0.out.o.r h0.out.o.z) rfl ⟨h0.out.o.b,by rw[hD.out,hY.out]⟩
  have hP:=hid hh;have ka:((z0:Int)=0)=True:=by simp;omega
  have kb:((z0:Int)==0)=true:=by simp;omega
  clear hk hh;have x0:X.cell? ⟨W.heap.size,0,none⟩=some (.int .i64 (t:Nat)):=HQ.out.o.f.cell 0;have x1:X.cell? ⟨W.heap.size,1,none⟩=some (.int .i64 (f:Nat)):=HQ.out.o.f.cell 1;have x2:X.cell? ⟨W.heap.size,2,none⟩=some (.int .i64 (s:Nat)):=HQ.out.o.f.cell 2;have x3:X.cell? ⟨W.heap.size,3,none⟩=some (.slice A n c):=HQ.out.o.f.cell 3;go_upto_region 8 with(first
   |(refine wpList_rowPut _ rfl _ _ 96 rfl X.heap.size 96 _ (infC {typ:=t,stream:=s} (.slice none 0 0) (.slice none 0 0)) rfl rfl (Blk.new X _ _) infSize5 rfl (infC_one _ _ _ _ _ _ _) ?_
     intro Y hb hg;have h8:=hid (HQ.out.o.fresh hb hg);clear hb hg)
   |fail)
  clear HQ x0 x1 x2 x3 u0 ka kb;obtain⟨g,hg⟩:∃g,X.heap.size=g:=⟨_,rfl⟩;rw[hg]at h8;simp only[hg];have HQ:=h8;clear h8 hg;clear X
  rename World=>X
  have x0:X.cell? ⟨W.heap.size,0,none⟩=some (.int .i64 (t:Nat)):=HQ.out.o.f.cell 0;have x1:X.cell? ⟨W.heap.size,1,none⟩=some (.int .i64 (f:Nat)):=HQ.out.o.f.cell 1;have x2:X.cell? ⟨W.heap.size,2,none⟩=some (.int .i64 (s:Nat)):=HQ.out.o.f.cell 2;have x3:X.cell? ⟨W.heap.size,3,none⟩=some (.slice A n c):=HQ.out.o.f.cell 3;go_wp2_with fail;refine(hG.out X).mono ?_;rintro e w1 ⟨rfl,hw⟩;subst w1;rcases(show(pd=true/\b8=true)\/pd=false\/(pd=true/\b8=false)by cases pd<;>cases b8<;>simp)with⟨rfl,rfl⟩|rfl|⟨rfl,rfl⟩
  rotate_left
  focus
   have ho:=hid (show Calls Tryz.prog 82 #[.agg #[.int .i64 (t:Nat),.int .i64 (f:Nat),.int .i64 (s:Nat),.slice A n c],.agg (infC {typ:=t,stream:=s} (.slice none 0 0) (.slice none 0 0)),.slice A n c] X (SyPost X (opn t f s p))by
    rw[h6.out];unfold opn2;rw[if_neg (by rw[hd.out.1];simp)];exact says_any t f s A n c A n c W.heap.size p {typ:=t,stream:=s} X ((HR.out.more hB).below HQ.out.o.b) HQ.out.o.b.size hc hn hf (info0 t f s) rfl (λh=>by subst h;exact has32 f) rfl rfl (ack_is t f) hP.out)
   go_upto_region 17 with fail
  rotate_left
  focus
   have ho:=hid (show Calls Tryz.prog 82 #[.agg #[.int .i64 (t:Nat),.int .i64 (f:Nat),.int .i64 (s:Nat),.slice A n c],.agg (infC {typ:=t,stream:=s} (.slice none 0 0) (.slice none 0 0)),.slice A n c] X (SyPost X (opn t f s p))by
    rw[h6.out];unfold opn2;rw[if_neg (by rw[hd.out.1];simp)];exact says_any t f s A n c A n c W.heap.size p {typ:=t,stream:=s} X ((HR.out.more hB).below HQ.out.o.b) HQ.out.o.b.size hc hn hf (info0 t f s) rfl (λh=>by subst h;exact has32 f) rfl rfl (ack_is t f) hP.out)
   go_upto_region 17 with fail
  rotate_left
  focus
   by_cases hq:n=0
   · have h7:=hid (show opn t f s p= .error (6,0)by rw[h6.out];unfold opn2;rw[if_pos (by rw[hd.out.1];rfl),List.eq_nil_of_length_eq_zero (he.out.trans hq)])
     have ka:((n:Int)=0)=True:=by simp;omega
     have kb:((n:Int)==0)=true:=by simp;omega
     clear hq;go_wp2_with fail;refine(ofh2_any 6 0 _).mono ?_;rintro e v1 ⟨rfl,hb⟩;have h5:=hid (O3.below HQ.out.o hb);clear hb;go_wp2_with (first
      |(refine wpList_rowPut _ rfl _ _ 96 rfl (W.heap.size+1) 96 _ (infC {} (.slice none 0 0) (.slice none 0 0)) rfl rfl h5.out.r infSize5 rfl (infC_one _ _ _ _ _ _ _) ?_
        intro v2 hb hg;have h4:=hid (O3.row h5.out hb hg);clear hb hg)
      |(refine wpList_rowPut _ rfl _ _ 98 rfl (W.heap.size+2) 98 _ (fltR 99 6 0) rfl rfl h4.out.z fltSize rfl (fltR_one _ _ _) ?_
        intro v3 hb hg;have h0:=hid (O3.rowz h4.out hb hg);clear hb hg)
      |fail)
     exact bodyPost_ret (res23 Tryz.results45 _ _ _ _ _ _ _ (99,6,0) rfl rfl h0.out.r h0.out.z) rfl ⟨h0.out.b,by rw[h7.out]⟩
   obtain⟨y,q,hp⟩:∃x q,p=x::q:=by
    cases p with
    |nil=>exact absurd he.out.symm hq
    |cons x q=>exact⟨x,q,rfl⟩
   obtain⟨ad,rfl,H1,hcell⟩:=HR.out.2 (by omega);have hA:=hcell 0 (by omega);have h2:opn2 t f s p=if p.length<=y.toNat then .error (1,0)else rd {info0 t f s with pad:=y.toNat} (q.take (q.length-y.toNat)):=by
    unfold opn2;rw[if_pos (by rw[hd.out.1];rfl)];subst hp
    rfl
   have hQ:q.length+1=n:=by rw[<-he.out,hp];rfl
   obtain⟨u,hu⟩:∃v:Nat,y.toNat=v:=⟨_,rfl⟩;have hi:u<256:=by have:=y.toNat_lt;omega
   have H2:=hid (show∀X,Below W.heap.size W X->X.cell? ad=some (.int .u8 (u:Int))fromλX h=>(h.cell (p:=ad) (by omega)).trans (by rw[hp]at hA;rw[<-hu];exact hA));rw[hu,he.out]at h2;have hR:=hid (h6.out.trans h2);have H3:=hid hQ;have HP:=hid hp;have e3:IntKind.i64.wrap (u:Int)=(u:Int):=by rw[IntKind.wrap_i64];omega
   clear hp hu H1 hcell hA h2 hQ hi;have ka:((n:Int)=0)=False:=by simp;omega
   have kb:((n:Int)==0)=false:=by simp;omega
   have kp:(0<n)=True:=by simp;omega
   clear hq;have g6:X.cell? ⟨g,6,none⟩=some (.bool false):=HQ.out.i.cell 6;have fz6:=HQ.out.i.frozen 6;go_upto_region 13 with fail;have h8:=hid (show O4 W (X.setCell ⟨g,6,none⟩ (.bool true)) t f s (.slice (some ad) n c) (infC {} (.slice none 0 0) (.slice none 0 0)) (fltR 0 0 0) g 96 (infC {typ:=t,stream:=s,padded:=true} (.slice none 0 0) (.slice none 0 0))from HQ.out.put 6 (.bool true));clear HQ g6 fz6 x0 x1 x2 x3;have HQ:=h8;clear h8;generalize X.setCell ⟨g,6,none⟩ (.bool true)=X at*
   have x4:=H2.out X HQ.out.o.b;have g9:X.cell? ⟨g,9,none⟩=some (.int .i64 0):=HQ.out.i.cell 9;have fz9:=HQ.out.i.frozen 9;go_upto_region 14 with fail;have h8:=hid (show O4 W (X.setCell ⟨g,9,none⟩ (.int .i64 (u:Nat))) t f s (.slice (some ad) n c) (infC {} (.slice none 0 0) (.slice none 0 0)) (fltR 0 0 0) g 96 (infC {typ:=t,stream:=s,padded:=true,pad:=u} (.slice none 0 0) (.slice none 0 0))from HQ.out.put 9 (.int .i64 (u:Nat)));clear HQ g9 fz9 x4;have HQ:=h8;clear h8;generalize X.setCell ⟨g,9,none⟩ (.int .i64 (u:Nat))=X at*
   have g9:X.cell? ⟨g,9,none⟩=some (.int .i64 (u:Nat)):=HQ.out.i.cell 9;by_cases hu:n<=u
   · have h7:=hid (show opn t f s p= .error (1,0)from hR.out.trans (if_pos hu))
     have k1:((n:Int)<=(u:Int))=True:=by simp;omega
     clear hu;go_wp2_with fail;refine(ofh2_any 1 0 _).mono ?_;rintro e v1 ⟨rfl,hb⟩;have h5:=hid (O3.below HQ.out.o hb);clear hb;go_wp2_with (first
      |(refine wpList_rowPut _ rfl _ _ 96 rfl (W.heap.size+1) 96 _ (infC {} (.slice none 0 0) (.slice none 0 0)) rfl rfl h5.out.r infSize5 rfl (infC_one _ _ _ _ _ _ _) ?_
        intro v2 hb hg;have h4:=hid (O3.row h5.out hb hg);clear hb hg)
      |(refine wpList_rowPut _ rfl _ _ 98 rfl (W.heap.size+2) 98 _ (fltR 99 1 0) rfl rfl h4.out.z fltSize rfl (fltR_one _ _ _) ?_
        intro v3 hb hg;have h0:=hid (O3.rowz h4.out hb hg);clear hb hg)
      |fail)
     exact bodyPost_ret (res23 Tryz.results45 _ _ _ _ _ _ _ (99,1,0) rfl rfl h0.out.r h0.out.z) rfl ⟨h0.out.b,by rw[h7.out]⟩
   have k1:((n:Int)<=(u:Int))=False:=by simp;omega
   have h7:=hid (hR.out.trans (if_neg hu));obtain⟨m,hm⟩:∃m,n=m+u+1:=⟨n-u-1,by omega⟩;have w1:wrap64 ((n:Int)-(u:Int))=(m:Int)+1:=by unfold wrap64;omega
   have w2:IntKind.i64.wrap ((n:Int)-(u:Int))=(m:Int)+1:=by rw[IntKind.wrap_i64];omega
   obtain⟨A7,hC,hT⟩:=cut_mid byteP ((HR.out.more hB).below HQ.out.o.b) (1:Int) ((m:Int)+1) (k:=1) (m:=m) rfl (by omega) (by omega) hc;have ho:=hid (show Calls Tryz.prog 82 #[.agg #[.int .i64 (t:Nat),.int .i64 (f:Nat),.int .i64 (s:Nat),.slice (some ad) n c],.agg (infC {typ:=t,stream:=s,padded:=true,pad:=u} (.slice none 0 0) (.slice none 0 0)),.slice A7 m (c-1)] X (SyPost X (opn t f s p))by
    rw[h7.out];have hl:(p.drop 1).take m=q.take (q.length-u):=by
     rw[HP.out,show q.length-u=m by have:=H3.out;omega]
     rfl
    rw[hl]at hC;exact says_any t f s (some ad) n c A7 m (c-1) W.heap.size _ {typ:=t,stream:=s,padded:=true,pad:=u} X hC HQ.out.o.b.size (by omega) (by omega) hf {info0 t f s with pad:=u} rfl (λh=>by subst h;exact has32 f) rfl rfl (ack_is t f) (siz_pads (hd.out.2 trivial)))
   clear hC hm hu;go_upto_region 17 with fail;have x0:X.cell? ⟨W.heap.size,0,none⟩=some (.int .i64 (t:Nat)):=HQ.out.o.f.cell 0;have x1:X.cell? ⟨W.heap.size,1,none⟩=some (.int .i64 (f:Nat)):=HQ.out.o.f.cell 1;have x2:X.cell? ⟨W.heap.size,2,none⟩=some (.int .i64 (s:Nat)):=HQ.out.o.f.cell 2;have x3:X.cell? ⟨W.heap.size,3,none⟩=some (.slice (some ad) n c):=HQ.out.o.f.cell 3
  all_goals
   go_wp2_with (first
    |(refine wpList_rowGet _ rfl _ 96 rfl g 96 _ rfl HQ.out.i _ Tryz.underlying96 rfl infSize5 ?_)
    |fail)
   refine ho.out.mono ?_;intro e w1 hS;obtain⟨j9,A8,n8,c8,A9,n9,c9,z,rfl,hb,hs⟩:=hS.shape;have h5:=hid (O3.below HQ.out.o hb);have H4:=hid hs;clear hS hb hs HQ ho x0 x1 x2 x3;go_wp2_with (first
    |(refine wpList_rowPut _ rfl _ _ 96 rfl (W.heap.size+1) 96 _ (infC j9 (.slice A8 n8 c8) (.slice A9 n9 c9)) rfl rfl h5.out.r infSize5 rfl (infC_one _ _ _ _ _ _ _) ?_
      intro v2 hb hg;have h4:=hid (O3.row h5.out hb hg);clear hb hg)
    |(refine wpList_rowPut _ rfl _ _ 98 rfl (W.heap.size+2) 98 _ (fltR z.1 z.2.1 z.2.2) rfl rfl h4.out.z fltSize rfl (fltR_one _ _ _) ?_
      intro v3 hb hg;have h0:=hid (O3.rowz h4.out hb hg);clear hb hg)
    |fail)
   exact bodyPost_ret (res23 Tryz.results45 _ _ _ _ _ _ _ z rfl rfl h0.out.r h0.out.z) rfl (H4.out _ _ h0.out.b)
end Go.Proofs.YtkpppjhbmnfmkaaGreatDoor
end

section
set_option maxHeartbeats 16000000
set_option maxRecDepth 100000
namespace Go.Proofs.YtkpppjhbmnfmkaaGreatDoor
open Lib (hid)
open Go.RowKit Go.Own Go.Own.Fr Go.Own.Im
attribute [local go_sem] Oper.semAt_some
def idleC (sd t f s:Nat) (p:List UInt8) (ak:Bool):Int:=
 if 16384<p.length then 6 else if t=9 then 1 else match opn t f s p with
 | .error x=>(x.1:Nat)
 | .ok j=>if t=0\/t=3\/t=5 then 1 else if t=8 then(if s≠0 then 1 else if 2147418112<j.inc then 3 else -1)
   else if t=4 then(if(j.ack&&ak)=true then 1 else -1)else if t=1 then(if sd=1\/s % 2=0 then 1 else -2)else -1
theorem idle_blk {w v7 v8:World} {a b:Obj} {g:Nat} {ty:TypeId} {cs:Array Value} (h7:((w.alloc a).alloc b).grownBy v7 (some w.heap.size)) (h8:v7.grownBy v8 (some (w.heap.size+1))) (h:Blk w g ty cs):Blk v8 g ty cs:=
 have hl:=h.lt
 (((h.alloc _).alloc _).grown h7 (λe=>by injection e with e;omega)).grown h8 (λe=>by injection e with e;omega)
theorem idle_low {W w v7 v8:World} {a b:Obj} (h7:((w.alloc a).alloc b).grownBy v7 (some w.heap.size)) (h8:v7.grownBy v8 (some (w.heap.size+1))) (h:Below W.heap.size W w):Below W.heap.size W v8:=
 have hs:=h.size;have h1:=(h.alloc hs a).alloc (by simp;omega) b;have h2:=h1.grown h7 h1.size (λj e=>by injection e with e;omega)
 h2.grown h8 h2.size (λj e=>by injection e with e;omega)
theorem idle_z {w v7:World} {a:Obj} {ty:TypeId} {cs:Array Value} (h7:((w.alloc a).alloc (.cells cs ty)).grownBy v7 (some w.heap.size)):Blk v7 (w.heap.size+1) ty cs:=
 (blk_at (by simp)).grown h7 (λe=>by injection e with e;omega)
theorem ridle_any (sd t f s:Nat) (A:Option Addr) (n c B:Nat) (p:List UInt8) (ak:Bool) (W:World) (hr:Rd W B A n p) (hB:B<=W.heap.size) (hc:n<=c) (hn:n<=20000) (hf:f<=255):
 Calls Tryz.prog 15 #[.int .i64 (sd:Nat),.agg #[.int .i64 (t:Nat),.int .i64 (f:Nat),.int .i64 (s:Nat),.slice A n c],.bool ak] W λe w'=>e= .returned (.int .i64 (idleC sd t f s p ak))/\Below W.heap.size W w':=by
 have hl:=hr.1;have hG:=hid (λX (h:Below W.heap.size W X)=>ropen_any t f s A n c W.heap.size p X ((hr.more hB).below h) h.size hc (by omega) hf);have hh:=hid hl;clear hr hl;obtain⟨r2,h7⟩:∃r,s % 2=r:=⟨_,rfl⟩;have w2:((s:Int).tmod 2)=(r2:Int):=by rw[<-h7];rfl
 have w2':((s:Int) % 2)=(r2:Int):=by rw[<-h7];rfl
 have hq:=hid h7;clear h7;go_enter Tryz.func15,Tryz.ntmps15;go_upto_region 1 with fail;obtain⟨X,hX,hF,ht⟩:∃X,W.alloc (.cells #[.int .i64 (t:Nat),.int .i64 (f:Nat),.int .i64 (s:Nat),.slice A n c] 24)=X/\Blk X W.heap.size 24 #[.int .i64 (t:Nat),.int .i64 (f:Nat),.int .i64 (s:Nat),.slice A n c]/\Below W.heap.size W X:=⟨_,rfl,Blk.new W _ _,(Below.refl _ _).alloc (Nat.le_refl _) _⟩;rw[hX];have HF:=hid hF;have HB:=hid ht;clear hX hF ht;have x0:X.cell? ⟨W.heap.size,0,none⟩=some (.int .i64 (t:Nat)):=HF.out.cell 0;have x1:X.cell? ⟨W.heap.size,1,none⟩=some (.int .i64 (f:Nat)):=HF.out.cell 1;have x2:X.cell? ⟨W.heap.size,2,none⟩=some (.int .i64 (s:Nat)):=HF.out.cell 2;have x3:X.cell? ⟨W.heap.size,3,none⟩=some (.slice A n c):=HF.out.cell 3;by_cases h0:16384<n
 · have kl:((16384:Int)<(n:Int))=True:=by simp;omega
   have HI:=hid (show idleC sd t f s p ak=6 by unfold idleC;rw[hh.out,if_pos h0]);have h1:=HB;clear h0;go_wp2_with fail;go_ret;exact⟨by rw[HI.out];rfl,h1.out⟩
 have kl:((16384:Int)<(n:Int))=False:=by simp;omega
 by_cases h9:t=9
 · have HI:=hid (show idleC sd t f s p ak=1 by unfold idleC;rw[hh.out,if_neg h0,if_pos h9])
   have h1:=HB;have m9:((t:Int)=9)=True:=by simp;omega
   have m9b:((t:Int)==9)=true:=by simp;omega
   clear h0 h9;go_wp2_with fail;go_ret;exact⟨by rw[HI.out];rfl,h1.out⟩
 have m9:((t:Int)=9)=False:=by simp;omega
 have m9b:((t:Int)==9)=false:=by simp;omega
 have hu:=hid (show idleC sd t f s p ak=_ by unfold idleC;rw[hh.out,if_neg h0,if_neg h9]);clear h0 h9;go_wp2_with fail;refine(hG.out X HB.out).mono ?_;intro e w1 h5;obtain⟨hw,h5⟩:=h5;have h8:=hid hw;clear hw x0 x1 x2 x3;rcases h6:opn t f s p with x|j
 · rw[h6]at h5
   obtain rfl:=h5;have HI:=hid (show idleC sd t f s p ak=(x.1:Nat)from hu.out.trans (by rw[h6]));clear h6;go_upto_region 6 with(first
    |(refine wpList_rowPut _ rfl _ _ 96 rfl w1.heap.size 96 _ (infC {} (.slice none 0 0) (.slice none 0 0)) rfl rfl ((Blk.new w1 _ _).alloc _) infSize5 rfl (infC_one _ _ _ _ _ _ _) ?_
      intro v7 hb hg;have hj:=hid hb;have h3:=hid hg;clear hb hg)
    |(refine wpList_rowPut _ rfl _ _ 98 rfl (w1.heap.size+1) 98 _ (fltR 99 x.1 x.2) rfl rfl (idle_z h3.out) fltSize rfl (fltR_one _ _ _) ?_
      intro v8 hb hg;have he:=hid hb;have h4:=hid hg;clear hb hg)
    |fail)
   have h1:=hid (idle_low h3.out h4.out (HB.out.trans (h8.out.mono HB.out.size)));have hk:=hid (idle_blk h3.out h4.out (HF.out.below h8.out HF.out.lt));have ho:=hid (hj.out.grown h4.out (λe=>by injection e with e;omega));have c0:v8.cell? ⟨w1.heap.size+1,0,none⟩=some (.int .i64 99):=he.out.cell 0;have c1:v8.cell? ⟨w1.heap.size+1,1,none⟩=some (.int .i64 (x.1:Nat)):=he.out.cell 1;go_wp2_with fail;go_ret;exact⟨by rw[HI.out];rfl,h1.out⟩
 rw[h6]at h5;obtain⟨i,A7,n7,c7,A8,n8,c8,rfl,hA,hC⟩:=h5;have h2:=hid (show idleC sd t f s p ak=if t=0\/t=3\/t=5 then 1 else if t=8 then(if s≠0 then 1 else if 2147418112<i.inc then 3 else -1)
  else if t=4 then(if(i.ack&&ak)=true then 1 else -1)else if t=1 then(if sd=1\/s % 2=0 then 1 else -2)else -1 from hu.out.trans (by rw[h6,hA,hC]))
 clear h6 hA hC;go_upto_region 6 with(first
  |(refine wpList_rowPut _ rfl _ _ 96 rfl w1.heap.size 96 _ (infC i (.slice A7 n7 c7) (.slice A8 n8 c8)) rfl rfl ((Blk.new w1 _ _).alloc _) infSize5 rfl (infC_one _ _ _ _ _ _ _) ?_
    intro v7 hb hg;have hj:=hid hb;have h3:=hid hg;clear hb hg)
  |(refine wpList_rowPut _ rfl _ _ 98 rfl (w1.heap.size+1) 98 _ (fltR 0 0 0) rfl rfl (idle_z h3.out) fltSize rfl (fltR_one _ _ _) ?_
    intro v8 hb hg;have he:=hid hb;have h4:=hid hg;clear hb hg)
  |fail)
 have h1:=hid (idle_low h3.out h4.out (HB.out.trans (h8.out.mono HB.out.size)));have hk:=hid (idle_blk h3.out h4.out (HF.out.below h8.out HF.out.lt));have ho:=hid (hj.out.grown h4.out (λe=>by injection e with e;omega));have c0:v8.cell? ⟨w1.heap.size+1,0,none⟩=some (.int .i64 0):=he.out.cell 0;have y0:v8.cell? ⟨W.heap.size,0,none⟩=some (.int .i64 (t:Nat)):=hk.out.cell 0;have y2:v8.cell? ⟨W.heap.size,2,none⟩=some (.int .i64 (s:Nat)):=hk.out.cell 2;have i5:v8.cell? ⟨w1.heap.size,5,none⟩=some (.bool i.ack):=ho.out.cell 5;have i14:v8.cell? ⟨w1.heap.size,14,none⟩=some (.int .i64 (i.inc:Nat)):=ho.out.cell 14;obtain⟨ia,hD⟩:∃b,i.ack=b:=⟨_,rfl⟩;obtain⟨ic,hE⟩:∃b,i.inc=b:=⟨_,rfl⟩;rw[hD]at h2 i5;rw[hE]at h2 i14;clear hD hE;rcases(show t=0\/t=3\/t=5\/t=8\/t=4\/t=1\/(t≠0/\t≠3/\t≠5/\t≠8/\t≠4/\t≠1)by omega)with h|h|h|h|h|h|h
 · have HI:=hid (show idleC sd t f s p ak=1 from h2.out.trans (by rw[if_pos (by omega)]))
   have m0:((t:Int)=0)=True:=by simp;omega
   have m0b:((t:Int)==0)=true:=by simp;omega
   clear h;go_wp2_with fail;go_ret;exact⟨by rw[HI.out];rfl,h1.out⟩
 · have HI:=hid (show idleC sd t f s p ak=1 from h2.out.trans (by rw[if_pos (by omega)]))
   have m0:((t:Int)=0)=False:=by simp;omega
   have m0b:((t:Int)==0)=false:=by simp;omega
   have m3:((t:Int)=3)=True:=by simp;omega
   have m3b:((t:Int)==3)=true:=by simp;omega
   clear h;go_wp2_with fail;go_ret;exact⟨by rw[HI.out];rfl,h1.out⟩
 · have HI:=hid (show idleC sd t f s p ak=1 from h2.out.trans (by rw[if_pos (by omega)]))
   have m0:((t:Int)=0)=False:=by simp;omega
   have m0b:((t:Int)==0)=false:=by simp;omega
   have m3:((t:Int)=3)=False:=by simp;omega
   have m3b:((t:Int)==3)=false:=by simp;omega
   have m5:((t:Int)=5)=True:=by simp;omega
   have m5b:((t:Int)==5)=true:=by simp;omega
   clear h;go_wp2_with fail;go_ret;exact⟨by rw[HI.out];rfl,h1.out⟩
 · have m0:((t:Int)=0)=False:=by simp;omega
   have m0b:((t:Int)==0)=false:=by simp;omega
   have m3:((t:Int)=3)=False:=by simp;omega
   have m3b:((t:Int)==3)=false:=by simp;omega
   have m5:((t:Int)=5)=False:=by simp;omega
   have m5b:((t:Int)==5)=false:=by simp;omega
   have m8:((t:Int)=8)=True:=by simp;omega
   have m8b:((t:Int)==8)=true:=by simp;omega
   by_cases hs:s=0
   · have ssa:((s:Int)=0)=True:=by simp;omega
     have ssb:((s:Int)==0)=true:=by simp;omega
     by_cases hi:2147418112<ic
     · have HI:=hid (show idleC sd t f s p ak=3 from h2.out.trans (by rw[if_neg (by omega),if_pos h,if_neg (by omega),if_pos hi]))
       have li:((2147418112:Int)<(ic:Int))=True:=by simp;omega
       clear h hs hi;go_wp2_with fail;go_ret;exact⟨by rw[HI.out];rfl,h1.out⟩
     have HI:=hid (show idleC sd t f s p ak= -1 from h2.out.trans (by rw[if_neg (by omega),if_pos h,if_neg (by omega),if_neg hi]));have li:((2147418112:Int)<(ic:Int))=False:=by simp;omega
     clear h hs hi;go_wp2_with fail;go_ret;exact⟨by rw[HI.out];rfl,h1.out⟩
   have HI:=hid (show idleC sd t f s p ak=1 from h2.out.trans (by rw[if_neg (by omega),if_pos h,if_pos hs]));have ssa:((s:Int)=0)=False:=by simp;omega
   have ssb:((s:Int)==0)=false:=by simp;omega
   clear h hs;go_wp2_with fail;go_ret;exact⟨by rw[HI.out];rfl,h1.out⟩
 · have m0:((t:Int)=0)=False:=by simp;omega
   have m0b:((t:Int)==0)=false:=by simp;omega
   have m3:((t:Int)=3)=False:=by simp;omega
   have m3b:((t:Int)==3)=false:=by simp;omega
   have m5:((t:Int)=5)=False:=by simp;omega
   have m5b:((t:Int)==5)=false:=by simp;omega
   have m8:((t:Int)=8)=False:=by simp;omega
   have m8b:((t:Int)==8)=false:=by simp;omega
   have m4:((t:Int)=4)=True:=by simp;omega
   have m4b:((t:Int)==4)=true:=by simp;omega
   have HI:=hid (show idleC sd t f s p ak=if(ia&&ak)=true then 1 else -1 from h2.out.trans (by rw[if_neg (by omega),if_neg (by omega),if_pos h]));clear h;cases ia<;>cases ak
   all_goals
    go_wp2_with fail;go_ret;exact⟨by rw[HI.out];rfl,h1.out⟩
 · have m0:((t:Int)=0)=False:=by simp;omega
   have m0b:((t:Int)==0)=false:=by simp;omega
   have m3:((t:Int)=3)=False:=by simp;omega
   have m3b:((t:Int)==3)=false:=by simp;omega
   have m5:((t:Int)=5)=False:=by simp;omega
   have m5b:((t:Int)==5)=false:=by simp;omega
   have m8:((t:Int)=8)=False:=by simp;omega
   have m8b:((t:Int)==8)=false:=by simp;omega
   have m4:((t:Int)=4)=False:=by simp;omega
   have m4b:((t:Int)==4)=false:=by simp;omega
   have m1:((t:Int)=1)=True:=by simp;omega
   have m1b:((t:Int)==1)=true:=by simp;omega
   by_cases hd:sd=1
   · have HI:=hid (show idleC sd t f s p ak=1 from h2.out.trans (by rw[if_neg (by omega),if_neg (by omega),if_neg (by omega),if_pos h,if_pos (Or.inl hd)]))
     have dda:((sd:Int)=1)=True:=by simp;omega
     have ddb:((sd:Int)==1)=true:=by simp;omega
     clear h hd;go_wp2_with fail;go_ret;exact⟨by rw[HI.out];rfl,h1.out⟩
   have dda:((sd:Int)=1)=False:=by simp;omega
   have ddb:((sd:Int)==1)=false:=by simp;omega
   by_cases hm:r2=0
   · have HI:=hid (show idleC sd t f s p ak=1 from h2.out.trans (by rw[if_neg (by omega),if_neg (by omega),if_neg (by omega),if_pos h,hq.out,if_pos (Or.inr hm)]))
     have rra:((r2:Int)=0)=True:=by simp;omega
     have rrb:((r2:Int)==0)=true:=by simp;omega
     clear h hd hm;go_wp2_with fail;go_ret;exact⟨by rw[HI.out];rfl,h1.out⟩
   have HI:=hid (show idleC sd t f s p ak= -2 from h2.out.trans (by rw[if_neg (by omega),if_neg (by omega),if_neg (by omega),if_pos h,hq.out,if_neg (by omega)]));have rra:((r2:Int)=0)=False:=by simp;omega
   have rrb:((r2:Int)==0)=false:=by simp;omega
   clear h hd hm;go_wp2_with fail;go_ret;exact⟨by rw[HI.out];rfl,h1.out⟩
 · have m0:((t:Int)=0)=False:=by simp;omega
   have m0b:((t:Int)==0)=false:=by simp;omega
   have m3:((t:Int)=3)=False:=by simp;omega
   have m3b:((t:Int)==3)=false:=by simp;omega
   have m5:((t:Int)=5)=False:=by simp;omega
   have m5b:((t:Int)==5)=false:=by simp;omega
   have m8:((t:Int)=8)=False:=by simp;omega
   have m8b:((t:Int)==8)=false:=by simp;omega
   have m4:((t:Int)=4)=False:=by simp;omega
   have m4b:((t:Int)==4)=false:=by simp;omega
   have m1:((t:Int)=1)=False:=by simp;omega
   have m1b:((t:Int)==1)=false:=by simp;omega
   have HI:=hid (show idleC sd t f s p ak= -1 from h2.out.trans (by rw[if_neg (by omega),if_neg (by omega),if_neg (by omega),if_neg (by omega)]));clear h;go_wp2_with fail;go_ret;exact⟨by rw[HI.out];rfl,h1.out⟩
end Go.Proofs.YtkpppjhbmnfmkaaGreatDoor
end
