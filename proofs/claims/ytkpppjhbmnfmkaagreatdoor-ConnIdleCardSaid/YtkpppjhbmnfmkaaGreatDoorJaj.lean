/-
  
  
  
  
-/
import Derived.Test.YtkpppjhbmnfmkaaGreatDoorJag
import Derived.Deep.RegionHeld3
import Derived.Deep.RegionLaw
import Derived.Deep.DrawnRows
import Derived.Deep.CutBlock
import Derived.Test.YtkpppjhbmnfmkaaGreatDoorFq
import Derived.Test.YtkpppjhbmnfmkaaGreatDoorJaf
import Derived.Test.YtkpppjhbmnfmkaaGreatDoorJae
set_option linter.unusedSimpArgs false
set_option linter.unusedVariables false
section
set_option maxHeartbeats 8000000
set_option maxRecDepth 100000
namespace Go.Proofs.YtkpppjhbmnfmkaaGreatDoor
open Lib (hid)
open Go.RowKit Go.Own Go.Own.Fr Go.Own.Im
attribute [local go_sem] Oper.semAt_some
theorem elSet:Cm.ElP Tryz.prog setC 89 87 2 16:=by
 refine⟨Tryz.underlying89,?_,λ_=>rfl,?_,by omega,by omega⟩
 · have h:(Tryz.prog.info? 87).map (λi=>(i.zero,i.size,i.bytes))=some (some (.agg #[.int .i64 0,.int .i64 0]),2,16):=by kernel_rfl
   obtain⟨i,hi,hz,h1,h2⟩:=info_parts h;exact⟨i,_,hi,hz,h1,h2,rfl⟩
 · intro x u hu
   simp only[setC,List.mem_cons,List.not_mem_nil,or_false]at hu;rcases hu with rfl|rfl<;>rfl
structure SetJ (W:World) (g B:Nat) (i:Inf) (l:List UInt8) (t:Value) (wr:World) (A:Option Addr) (m c:Nat) (r:List UInt8) (done:List (Nat×Nat)) (sv:Value):Prop where
 val:t= .slice A m c
 le:m<=c
 rd_:Rd wr B A m r
 six:m % 6=0
 few:m<=l.length
 grown:W.grownBy wr (some g)
 blk:Blk wr g 91 (infC {i with sets:=done} sv (.slice none 0 0))
 own:SetO wr W.heap.size sv done
 num:6*done.length+m<=l.length
 res:rd i l=match setsOf r with| .ok x=>.ok {i with sets:=done++x}| .error x=>.error x
theorem set_six {r:List UInt8} {m:Nat} (h:r.length=m) (h6:m % 6=0) (h0:0<m):∃a b c d e f q,r=a::b::c::d::e::f::q:=by
 rcases r with _|⟨a,_|⟨b,_|⟨c,_|⟨d,_|⟨e,_|⟨f,q⟩⟩⟩⟩⟩⟩<;>simp at h<;>first|omega|exact⟨_,_,_,_,_,_,_,rfl⟩
theorem SetJ.next {W wr wc w8:World} {g B m c c8:Nat} {i:Inf} {l q:List UInt8} {t sv:Value} {A A4 A8:Option Addr} {b0 b1 b2 b3 b4 b5:UInt8} {done:List (Nat×Nat)} {a v:Nat} {o:Obj}
 (h:SetJ W g B i l t wr A m c (b0::b1::b2::b3::b4::b5::q) done sv) (hB:B<=W.heap.size) (hg:g<W.heap.size) (h6:6<=m)
 (hG:W.grownBy wc (some g)) (hR:Rd wc B A4 (m-6) q) (hO:SetO wc W.heap.size sv done) (hP:Blk w8 g 91 (infC {i with sets:=done} sv (.slice none 0 0)))
 (h8:(wc.drew.alloc o).grownBy w8 sv.ownBlock) (h1:SetO w8 W.heap.size (.slice A8 (done.length+1) c8) (done++[(a,v)]))
 (hs:setsOf (b0::b1::b2::b3::b4::b5::q)=match badSet (a,v)with
   |some k=>.error (k,0)
   |none=>match setsOf q with
    | .ok l=>.ok ((a,v)::l)
    | .error x=>.error x) (hb:badSet (a,v)=none):
 SetJ W g B i l (.slice A4 (m-6) (c-6)) (w8.setCell ⟨g,16,none⟩ (.slice A8 (done.length+1) c8)) A4 (m-6) (c-6) q (done++[(a,v)]) (.slice A8 (done.length+1) c8):=by
 have hsz:=hG.size;have h0:∀j,sv.ownBlock=some j->W.heap.size<=j:=λj e=>(hO.lt j e).1;have h2:W.grownBy (wc.drew.alloc o) (some g):=⟨hG.os,hG.tape,hG.output,by have:=hG.size;simp;omega,λk hk hn=>(Below.heap_alloc wc.drew o k (by show k<wc.heap.size;omega)).trans (hG.block k hk hn)⟩;have h3:W.grownBy w8 (some g):=h2.andThen h8 λj hj=>.inl (h0 j hj);have h4:∀y,sv≠ .int .u8 y:=by
  obtain⟨A',c',e,_⟩:=hO.form;intro y e';rw[e]at e';cases e'
 have h5:Rd (wc.drew.alloc o) B A4 (m-6) q:=Rd.alloc (w:=wc.drew) hR (by show B<=wc.heap.size;omega) o;have h7:Rd w8 B A4 (m-6) q:=h5.grown h8 (by simp;omega) (λj e=>by have:=h0 j e;omega);refine⟨rfl,by have:=h.le;omega,h7.set_far (x:=sv) (hP.cell 16) h4 _,by have:=h.six;omega,by have:=h.few;omega,grown_setCell h3 16 _,hP.put 16 _,?_,?_,?_⟩
 · exact h1.grown (grown_setCell (World.grownBy.refl w8 (some g)) 16 _) (.inr λe=>by have:=(h1.lt g e).1;omega)
 · have:=h.num
   simp;omega
 · rw[h.res,hs,hb]
   cases setsOf q<;>simp
theorem rdSets (g:Nat) (i:Inf) (A:Option Addr) (n c B:Nat) (l:List UInt8) (W:World) (hb:Blk W g 91 (infC i (.slice none 0 0) (.slice none 0 0))) (hr:Rd W B A n l) (hB:B<=W.heap.size) (hc:n<=c) (hn:n<=1000000) (ht:i.typ=4) (hs:i.sets=[]/\i.data=[]):
 Calls Tryz.prog 185 #[.pointer (some ⟨g,0,none⟩),.slice A n c] W (RdPost W g i l):=by
 have hl:=hr.1;have hH:=hid hb.lt;have c5:W.cell? ⟨g,5,none⟩=some (.bool i.ack):=hb.cell 5;have hq:∃q,n % 6=q:=⟨_,rfl⟩;obtain⟨q,hq⟩:=hq;have hI:((n:Int).tmod 6)=(q:Int):=by rw[<-hq];rfl
 have h8:((n:Int) % 6)=(q:Int):=by rw[<-hq];rfl
 by_cases h4:(i.ack=true/\0<n)\/n % 6≠0
 · have HR:=hid (show rd i l= .error (6,0)by simp only[rd,ht,hl];rw[if_pos h4])
   clear hb hr;have fin:∀(e:Ending) (w':World),(e= .returned (.iface 196 (.pointer (some ⟨W.heap.size,0,none⟩)))/\w'=W.alloc (.cells #[.int .i64 6,.int .i64 0] 199))->RdPost W g i l e w':=by
    rintro e w' ⟨rfl,rfl⟩;refine⟨(World.grownBy_alloc W _ _),?_⟩;rw[HR.out];exact⟨_,rfl,Nat.le_refl _,Blk.new _ _ _⟩
   have HF:=hid fin;clear fin;by_cases h1:i.ack=true/\0<n
   · obtain⟨h1,h2⟩:=h1
     rw[h1]at c5;clear h4 hI h8 hq;go_enter Tryz.func185,Tryz.ntmps185;go_wp2_with fail;refine(fault_any 6 0 _).mono ?_;rintro e w1 ⟨rfl,hw⟩;subst w1;go_wp2;go_ret;exact HF.out _ _ ⟨rfl,rfl⟩
   · have hJ:¬q=0:=λe=>by rcases h4 with hK|hK;exact h1 hK;omega
     have h5:i.ack=false:=by
      cases h:i.ack
      · rfl
      · exact absurd ⟨h,by rcases Nat.eq_zero_or_pos n with h2|h2<;>omega⟩ h1
     rw[h5]at c5;clear h4 hq h1;go_enter Tryz.func185,Tryz.ntmps185;go_wp2_with fail;refine(fault_any 6 0 _).mono ?_;rintro e w1 ⟨rfl,hw⟩;subst w1;go_wp2;go_ret;exact HF.out _ _ ⟨rfl,rfl⟩
 · have hJ:q=0:=by omega
   subst hJ;have HR:=hid (show rd i l=match setsOf l with| .ok x=>.ok {i with sets:=[]++x}| .error x=>.error x by simp only[rd,ht,hl];rw[if_neg h4];cases setsOf l<;>simp);have hL:i.ack=true->¬0<n:=λh h2=>h4 (.inl ⟨h,h2⟩);have hG:i.data=[]:=hs.2;have hN:({i with sets:=[]}:Inf)=i:=by rw[<-hs.1]
   have HJ:=hid (show SetJ W g B i l (.slice A n c) W A n c l [] (.slice none 0 0)from⟨rfl,hc,hr,hq,by omega,World.grownBy.refl W _,by rw[hN];exact hb,setO_nil _ _,by simp;omega,HR.out⟩);have hV:=hid (show l.length<=1000000 by omega);clear h4 hs hr hb hN hl HR;cases h5:i.ack;all_goals
    rw[h5]at c5
    (try(have hW:n=0:=by have:=hL h5;omega))
    clear hL
    (try subst hW)
    go_enter Tryz.func185,Tryz.ntmps185;go_wp2;clear hI h8 hq c5 h5;go_loopw [1] (λt wr=>Hid (∃A m c r done sv,SetJ W g B i l t wr A m c r done sv)) (λt _=>match t with| .slice _ m _=>m|_=>0)
    case atStart=>exact hid ⟨_,_,_,_,_,_,HJ.out⟩
    case round=>
     obtain⟨A1,m,c1,r,done,sv,hj⟩:=hrel.out;clear hrel;obtain rfl:=hj.val;rcases Nat.eq_zero_or_pos m with h0|h0
     · subst h0
       go_wp2;go_ret;have hX:r=[]:=List.eq_nil_of_length_eq_zero hj.rd_.1;have h9:=hj.res;rw[hX]at h9;refine⟨hj.grown,?_⟩;rw[h9];refine⟨rfl,sv,.slice none 0 0,?_,?_,?_⟩
       · simpa using hj.blk
       · simpa using hj.own
       · show Ow _ _ _ _ i.data.length i.data
         rw[hG];exact ow_nil _ _ _
     · obtain⟨b0,b1,b2,b3,b4,b5,q,rfl⟩:=set_six hj.rd_.1 hj.six h0
       have hm:6<=m:=by have:=hj.six;omega
       obtain⟨A2,hO,hh⟩:=cut_head byteP hj.rd_ (2:Int) (k:=2) rfl (by omega) hj.le;obtain⟨A3,hP,hi⟩:=cut_mid byteP hj.rd_ (2:Int) (6:Int) (k:=2) (m:=4) rfl rfl (by omega) hj.le;obtain⟨A4,hQ,hU⟩:=cut_from byteP hj.rd_ (6:Int) (k:=6) rfl hm hj.le;obtain⟨a,ha⟩:∃a,ofB 0 [b0,b1]=a:=⟨_,rfl⟩;obtain⟨v,hv⟩:∃v,ofB 0 [b2,b3,b4,b5]=v:=⟨_,rfl⟩;have h6:=hid (λW' (h:Rd W' B A2 2 [b0,b1])=>of_any A2 2 c1 [b0,b1] W' B h (by omega));have hD:=hid (λW' (h:Rd W' B A3 4 [b2,b3,b4,b5])=>of_any A3 4 (c1-2) [b2,b3,b4,b5] W' B h (by omega));have hE:=hid (show Rd wr B A2 2 [b0,b1]from hO);have hF:=hid (show Rd wr B A3 4 [b2,b3,b4,b5]from hP);have hd:=hid (hE.out.alloc (Nat.le_trans hB hj.grown.size) (.cells #[.int .i64 0,.int .i64 0] 87));have he:=hid (hF.out.alloc (Nat.le_trans hB hj.grown.size) (.cells #[.int .i64 0,.int .i64 0] 87));have hR:=hid (show Rd wr B A4 (m-6) q from hQ);rw[ha]at h6;rw[hv]at hD;have HS:=hid (show setsOf (b0::b1::b2::b3::b4::b5::q)=match badSet (a,v)with
        |some k=>.error (k,0)
        |none=>match setsOf q with
         | .ok l=>.ok ((a,v)::l)
         | .error x=>.error x by rw[setsOf,ha,hv];cases badSet (a,v)<;>rfl)
       have HJ:=hid hj;have c16:wr.cell? ⟨g,16,none⟩=some sv:=hj.blk.cell 16;have f16:=hj.blk.frozen 16;have hM:=hid hm;have H9:¬((m:Int)<=0):=by omega
       clear ha hv hO hP hQ hj hm;go_upto_region 5 with fail;go_cut [5]from 27 to 33 (λt5 wx=>t5= .pointer (some ⟨wr.heap.size,0,none⟩)/\wx=(wr.alloc (.cells #[.int .i64 (a:Nat),.int .i64 (v:Nat)] 87)).drew)
       case first=>
        as_aux_lemma=>
         go_region_held3 (λ_=>True) (trivial) (first
          |(go_at_call 113
            with_reducible refine Calls.mono (h6.out _ ?_) ?_
            · first|exact hE.out|exact hd.out
            rintro e w1 ⟨rfl,hw⟩;subst w1)
          |(go_at_call 113
            with_reducible refine Calls.mono (hD.out _ ?_) ?_
            · first|exact hF.out|exact he.out
            rintro e w1 ⟨rfl,hw⟩;subst w1)
          |fail)
         all_goals
          go_wp2_with fail;go_meet;exact⟨rfl,rfl⟩
       case rest=>
        obtain⟨rfl,hS⟩:=hcut;have HN:=hid (show Blk (wr.alloc (.cells #[.int .i64 (a:Nat),.int .i64 (v:Nat)] 87)).drew wr.heap.size 87 #[.int .i64 (a:Nat),.int .i64 (v:Nat)]from Blk.new wr _ _);have h7:=hid (show Blk (wr.alloc (.cells #[.int .i64 (a:Nat),.int .i64 (v:Nat)] 87)).drew g 91 (infC {i with sets:=done} sv (.slice none 0 0))from HJ.out.blk.alloc _);have HG:=hid (show W.grownBy (wr.alloc (.cells #[.int .i64 (a:Nat),.int .i64 (v:Nat)] 87)).drew (some g)from grown_drewN (grown_alloc HJ.out.grown (.cells #[.int .i64 (a:Nat),.int .i64 (v:Nat)] 87)) 1);have hA:=hid (show SetO (wr.alloc (.cells #[.int .i64 (a:Nat),.int .i64 (v:Nat)] 87)).drew W.heap.size sv done from HJ.out.own.grown (grown_drewN (World.grownBy_alloc wr (.cells #[.int .i64 (a:Nat),.int .i64 (v:Nat)] 87) none) 1) (Cm.own_or sv));have hT:=hid (show Rd (wr.alloc (.cells #[.int .i64 (a:Nat),.int .i64 (v:Nat)] 87)).drew B A4 (m-6) q from hR.out.alloc (Nat.le_trans hB HJ.out.grown.size) _);have hY:=hid (show(wr.alloc (.cells #[.int .i64 (a:Nat),.int .i64 (v:Nat)] 87)).drew.heap.size=wr.heap.size+1 by simp);generalize hZ:wr.heap.size=gs at*
        have e5:(wr.alloc (.cells #[.int .i64 (a:Nat),.int .i64 (v:Nat)] 87)).drew=wc:=hS.symm;rw[e5]at HN h7 HG hA hT hY;clear hS e5 c16 f16 hZ hE hF hd he hR h6 hD hh hi;have ho:(a=2/\1<v)\/(a=5/\v<16384)\/(a=5/\16777216<=v)\/(a=4/\2147483647<v)\/(a=2/\v<=1)\/(a=5/\(16384<=v/\v<16777216))\/(a=4/\v<=2147483647)\/(a≠2/\a≠5/\a≠4):=by omega
        go_upto_block 2 with fail;go_cut []from 34 to 66 (λwx=>Hid (badSet (a,v)=none)/\wx=wc)
        case first=>
         rcases ho with⟨rfl,h1⟩|⟨rfl,h1⟩|⟨rfl,h1⟩|⟨rfl,h1⟩|⟨rfl,h1⟩|⟨rfl,h1⟩|⟨rfl,h1⟩|⟨n2,n5,n4⟩
         · have h3:=hid (show badSet (2,v)=some 1 by simp[badSet];omega)
           have s0:wc.cell? ⟨gs,0,none⟩=some (.int .i64 2):=HN.out.cell 0;have s1:wc.cell? ⟨gs,1,none⟩=some (.int .i64 (v:Nat)):=HN.out.cell 1;have hx:(1:Int)<(v:Int):=by omega
           clear h1;go_wp2_with fail;refine(fault_any 1 0 _).mono ?_;rintro e w1 ⟨rfl,hw⟩;subst w1;go_wp2;go_ret;refine⟨grown_alloc HG.out _,?_⟩;rw[HJ.out.res,HS.out,h3.out];exact⟨_,rfl,HG.out.size,Blk.new _ _ _⟩
         · have h3:=hid (show badSet (5,v)=some 1 by simp[badSet];omega)
           have s0:wc.cell? ⟨gs,0,none⟩=some (.int .i64 5):=HN.out.cell 0;have s1:wc.cell? ⟨gs,1,none⟩=some (.int .i64 (v:Nat)):=HN.out.cell 1;have hx:(v:Int)<16384:=by omega
           clear h1;go_wp2_with fail;refine(fault_any 1 0 _).mono ?_;rintro e w1 ⟨rfl,hw⟩;subst w1;go_wp2;go_ret;refine⟨grown_alloc HG.out _,?_⟩;rw[HJ.out.res,HS.out,h3.out];exact⟨_,rfl,HG.out.size,Blk.new _ _ _⟩
         · have h3:=hid (show badSet (5,v)=some 1 by simp[badSet];omega)
           have s0:wc.cell? ⟨gs,0,none⟩=some (.int .i64 5):=HN.out.cell 0;have s1:wc.cell? ⟨gs,1,none⟩=some (.int .i64 (v:Nat)):=HN.out.cell 1;have hx:¬(v:Int)<16384:=by omega
           have hy:(16777216:Int)<=(v:Int):=by omega
           clear h1;go_wp2_with fail;refine(fault_any 1 0 _).mono ?_;rintro e w1 ⟨rfl,hw⟩;subst w1;go_wp2;go_ret;refine⟨grown_alloc HG.out _,?_⟩;rw[HJ.out.res,HS.out,h3.out];exact⟨_,rfl,HG.out.size,Blk.new _ _ _⟩
         · have h3:=hid (show badSet (4,v)=some 3 by simp[badSet];omega)
           have s0:wc.cell? ⟨gs,0,none⟩=some (.int .i64 4):=HN.out.cell 0;have s1:wc.cell? ⟨gs,1,none⟩=some (.int .i64 (v:Nat)):=HN.out.cell 1;have hx:(2147483647:Int)<(v:Int):=by omega
           clear h1;go_wp2_with fail;refine(fault_any 3 0 _).mono ?_;rintro e w1 ⟨rfl,hw⟩;subst w1;go_wp2;go_ret;refine⟨grown_alloc HG.out _,?_⟩;rw[HJ.out.res,HS.out,h3.out];exact⟨_,rfl,HG.out.size,Blk.new _ _ _⟩
         · have h3:=hid (show badSet (2,v)=none by simp[badSet];omega)
           have s0:wc.cell? ⟨gs,0,none⟩=some (.int .i64 2):=HN.out.cell 0;have s1:wc.cell? ⟨gs,1,none⟩=some (.int .i64 (v:Nat)):=HN.out.cell 1;have hx:¬(1:Int)<(v:Int):=by omega
           clear h1;go_wp2;go_meet;exact⟨h3,rfl⟩
         · have h3:=hid (show badSet (5,v)=none by simp[badSet];omega)
           have s0:wc.cell? ⟨gs,0,none⟩=some (.int .i64 5):=HN.out.cell 0;have s1:wc.cell? ⟨gs,1,none⟩=some (.int .i64 (v:Nat)):=HN.out.cell 1;have hx:¬(v:Int)<16384:=by omega
           have hy:¬(16777216:Int)<=(v:Int):=by omega
           clear h1;go_wp2;go_meet;exact⟨h3,rfl⟩
         · have h3:=hid (show badSet (4,v)=none by simp[badSet];omega)
           have s0:wc.cell? ⟨gs,0,none⟩=some (.int .i64 4):=HN.out.cell 0;have s1:wc.cell? ⟨gs,1,none⟩=some (.int .i64 (v:Nat)):=HN.out.cell 1;have hx:¬(2147483647:Int)<(v:Int):=by omega
           clear h1;go_wp2;go_meet;exact⟨h3,rfl⟩
         · have h3:=hid (show badSet (a,v)=none by simp[badSet,n2,n5,n4])
           have s0:wc.cell? ⟨gs,0,none⟩=some (.int .i64 (a:Nat)):=HN.out.cell 0;have s1:wc.cell? ⟨gs,1,none⟩=some (.int .i64 (v:Nat)):=HN.out.cell 1;have m2:¬(a:Int)=2:=by omega
           have m5:¬(a:Int)=5:=by omega
           have m4:¬(a:Int)=4:=by omega
           clear n2 n5 n4;go_wp2;go_meet;exact⟨h3,rfl⟩
        case rest=>
         obtain⟨h3,rfl⟩:=hcut;have s0:wc.cell? ⟨gs,0,none⟩=some (.int .i64 (a:Nat)):=HN.out.cell 0;have c16:wc.cell? ⟨g,16,none⟩=some sv:=h7.out.cell 16;have f16:=h7.out.frozen 16;have s1:wc.cell? ⟨gs,1,none⟩=some (.int .i64 (v:Nat)):=HN.out.cell 1;have h6:Hid (SetO (wc.drew.alloc (.cells #[.int .i64 (a:Nat),.int .i64 (v:Nat)] 87)) W.heap.size sv done):=hid (hA.out.grown (show wc.grownBy _ none from⟨rfl,rfl,rfl,by simp,λk hk _=>Below.heap_alloc wc.drew _ k hk⟩) (Cm.own_or sv));have H0:Hid (Cm.RS setC 2 (wc.drew.alloc (.cells #[.int .i64 (a:Nat),.int .i64 (v:Nat)] 87)) (wc.drew.alloc (.cells #[.int .i64 (a:Nat),.int .i64 (v:Nat)] 87)).heap.size (some ⟨wc.heap.size,0,none⟩) 1 [(a,v)]):=hid
          ((Cm.Ew.lit (k:=2) setC 87 (λ_=>rfl) wc.drew [(a,v)] (by simp)).rs (λ_=>rfl) (by omega))
         have lg:=h7.out.lt;have lgs:=HN.out.lt;have H1:=hid (show done.length+1<=1000000 by have:=HJ.out.num;have:=hV.out;have:=hM.out;omega);have hu:=hid (show W.heap.size<=(wc.drew.alloc (.cells #[.int .i64 (a:Nat),.int .i64 (v:Nat)] 87)).heap.size by have:=HG.out.size;simp;omega);go_upto_region 11 with fail;go_region_law
          ((refine Cm.step_app_e elSet _ (by rfl) (.tmp 71) (.tmp 73) (by rfl) W.heap.size sv done (by rfl) h6.out _ (some ⟨wc.heap.size,0,none⟩) 1 1 [(a,v)] (by rfl) H0.out H1.out hu.out ?_
            intro A8 c8 w8 hf hg hv;have H2:=hid hg;have H3:=hid hf;have hC:=(h7.out.alloc (.cells #[.int .i64 (a:Nat),.int .i64 (v:Nat)] 87)).grown (w:=wc.alloc _) (w':=w8) ⟨hg.os,hg.tape,hg.output,hg.size,hg.block⟩ (λe=>by have:=(hA.out.lt g e.symm).1;have:=hH.out;omega);have H4:w8.frozen? ⟨g,16,none⟩=false:=hC.frozen 16;have H5:w8.cell? ⟨g,16,none⟩=some sv:=hC.cell 16;have H7:=hid hC;clear hC hf hg hv))
         all_goals
          have H8:=hid (HJ.out.next hB hH.out hM.out HG.out hT.out hA.out H7.out H2.out H3.out HS.out h3.out);clear H4 H5;go_wp2;exact⟨hid ⟨_,_,_,_,_,_,H8.out⟩,by have:=hM.out;show m-6<m;omega⟩
end Go.Proofs.YtkpppjhbmnfmkaaGreatDoor
end

section
set_option maxHeartbeats 8000000
set_option maxRecDepth 100000
namespace Go.Proofs.YtkpppjhbmnfmkaaGreatDoor
open Lib (hid)
open Go.RowKit Go.Own Go.Own.Fr Go.Own.Im
attribute [local go_sem] Oper.semAt_some
def depI (i:Inf) (p:List UInt8):Inf:={i with alone:=decide (128<=(p.getD 0 0).toNat),dep:=low (ofB 0 (p.take 4)),weight:=(p.getD 4 0).toNat+1}
theorem withDep_is (i:Inf) (p:List UInt8):withDep i p=if(depI i p).dep=i.stream then .error (1,i.stream)else .ok (depI i p):=rfl
def DepPost (W:World) (g:Nat) (i:Inf) (l:List UInt8) (e:Ending) (w':World):Prop:=
 W.grownBy w' (some g)/\(∀B A n q,B<=W.heap.size->Rd W B A n q->Rd w' B A n q)/\Blk w' g 91 (infC (depI i l) (.slice none 0 0) (.slice none 0 0))/\
  (((depI i l).dep=i.stream/\∃a,e= .returned (.iface 196 (.pointer (some ⟨a,0,none⟩)))/\W.heap.size<=a/\Blk w' a 199 #[.int .i64 1,.int .i64 (i.stream:Nat)])\/((depI i l).dep≠i.stream/\e= .returned .nilIface))
theorem rdDep (g:Nat) (i:Inf) (A:Option Addr) (n c B:Nat) (l:List UInt8) (W:World) (hb:Blk W g 91 (infC i (.slice none 0 0) (.slice none 0 0))) (hr:Rd W B A n l) (hB:B<=W.heap.size) (hc:n<=c) (h5:5<=n):
 Calls Tryz.prog 178 #[.pointer (some ⟨g,0,none⟩),.slice A n c] W (DepPost W g i l):=by
 obtain⟨A1,hm,hq⟩:=cut_head byteP hr (4:Int) (k:=4) rfl (by omega) hc;have h9:ofB 0 (l.take 4)<9223372036854775808:=by
  have h1:=ofB_lt (l.take 4) 0;have h2:256^(l.take 4).length<=256^4:=Nat.pow_le_pow_right (by omega) (List.length_take_le _ _);omega
 obtain⟨ad,rfl,hF,hcell⟩:=hr.2 (by omega);have h0:=hcell 0 (by omega);rw[show ad.add 0=ad by cases ad;rfl]at h0;have h6:W.cell? ⟨ad.block,ad.off+4,none⟩=some (.int .u8 ((l.getD 4 0).toNat:Int)):=hcell 4 (by omega);obtain⟨v,hv⟩:∃v,ofB 0 (l.take 4)=v:=⟨_,rfl⟩;obtain⟨x,hx⟩:∃v:Int,((l.getD 0 0).toNat:Int)=v:=⟨_,rfl⟩;obtain⟨y,hy⟩:∃v:Int,((l.getD 4 0).toNat:Int)=v:=⟨_,rfl⟩;have hG:0<=y:=by omega
 have ht:y<256:=by have:=(l.getD 4 0).toNat_lt;omega
 have HJ:=hid (show depI i l={i with alone:=decide (128<=(l.getD 0 0).toNat),dep:=low v,weight:=(l.getD 4 0).toNat+1}by unfold depI;rw[hv]);have HE:=hid (show infC (depI i l) (.slice none 0 0) (.slice none 0 0)=(((infC i (.slice none 0 0) (.slice none 0 0)).setIfInBounds 8 (.bool (decide (128<=x)))).setIfInBounds 10 (.int .i64 (low v:Nat))).setIfInBounds 11 (.int .i64 (y+1))by
  rw[HJ.out];have e1:decide (128<=(l.getD 0 0).toNat)=decide (128<=x):=by rw[<-hx];simp;omega
  have e2:(((l.getD 4 0).toNat+1:Nat):Int)=y+1:=by rw[<-hy];omega
  simp only[infC,e1,e2]
  rfl)
 rw[hx]at h0;rw[hy]at h6;rw[hv]at h9;have hn:=hid (λW' (h:Rd W' B A1 4 (l.take 4))=>of_any A1 4 c (l.take 4) W' B h (Nat.le_refl _));rw[hv]at hn;have hA:=hid (λW'=>low_any v W' h9);have c8:W.cell? ⟨g,8,none⟩=some (.bool i.alone):=hb.cell 8;have c10:W.cell? ⟨g,10,none⟩=some (.int .i64 (i.dep:Nat)):=hb.cell 10;have c11:W.cell? ⟨g,11,none⟩=some (.int .i64 (i.weight:Nat)):=hb.cell 11;have f8:=hb.frozen 8;have f10:=hb.frozen 10;have f11:=hb.frozen 11;have e1:wrap64 (y+1)=y+1:=by unfold wrap64;omega
 have e2:IntKind.i64.wrap (y+1)=y+1:=by rw[IntKind.wrap_i64];omega
 have e3:IntKind.i64.wrap y=y:=by rw[IntKind.wrap_i64];omega
 have i0:((0:Int)<(n:Int))=True:=by simp;omega
 have i0n:(0<n)=True:=by simp;omega
 have i4:((4:Int)<(n:Int))=True:=by simp;omega
 have HB:=hid hb;have hC:=hid hm;have hD:=hid (show W.cell? ad=some (.int .u8 x)/\W.cell? ⟨ad.block,ad.off+4,none⟩=some (.int .u8 y)from⟨h0,h6⟩);have hf:=hid (show W.drew.cell? ad=some (.int .u8 x)/\W.drew.cell? ⟨ad.block,ad.off+4,none⟩=some (.int .u8 y)from⟨h0,h6⟩);have hk:∀W',Rd W' B (some ad) n l->W'.cell? ad=some (.int .u8 x)/\W'.cell? ⟨ad.block,ad.off+4,none⟩=some (.int .u8 y):=λW' h=>by
  obtain⟨ad',e,_,h'⟩:=h.2 (by omega);injection e with e
  subst e;have q0:=h' 0 (by omega);rw[show ad.add 0=ad by cases ad;rfl,hx]at q0;have q4:W'.cell? ⟨ad.block,ad.off+4,none⟩=some (.int .u8 ((l.getD 4 0).toNat:Int)):=h' 4 (by omega);rw[hy]at q4;exact⟨q0,q4⟩
 have r8:∀u B A n q,Rd W B A n q->Rd (W.setCell ⟨g,8,none⟩ u) B A n q:=λu B A n q h=>h.set_far c8 (by simp) u;have r10:∀u v B A n q,Rd W B A n q->Rd ((W.setCell ⟨g,8,none⟩ u).setCell ⟨g,10,none⟩ v) B A n q:=λu v B A n q h=>(r8 u B A n q h).set_far (x:=.int .i64 (i.dep:Nat)) ((hb.put 8 u).cell 10) (by simp) v;have r11:∀u v t B A n q,Rd W B A n q->Rd (((W.setCell ⟨g,8,none⟩ u).setCell ⟨g,10,none⟩ v).setCell ⟨g,11,none⟩ t) B A n q:=λu v t B A n q h=>(r10 u v B A n q h).set_far (x:=.int .i64 (i.weight:Nat)) (((hb.put 8 u).put 10 v).cell 11) (by simp) t;have hE:=hid (λ(u:Value)=>(show(W.setCell ⟨g,8,none⟩ u).cell? ad=some (.int .u8 x)/\(W.setCell ⟨g,8,none⟩ u).cell? ⟨ad.block,ad.off+4,none⟩=some (.int .u8 y)from hk _ (r8 u _ _ _ _ hr)));have hh:=hid (λ(u:Value)=>(show(W.setCell ⟨g,8,none⟩ u).drew.cell? ad=some (.int .u8 x)/\(W.setCell ⟨g,8,none⟩ u).drew.cell? ⟨ad.block,ad.off+4,none⟩=some (.int .u8 y)from hk _ (r8 u _ _ _ _ hr)));have hi:=hid (λ(u v:Value)=>(show((W.setCell ⟨g,8,none⟩ u).setCell ⟨g,10,none⟩ v).cell? ad=some (.int .u8 x)/\((W.setCell ⟨g,8,none⟩ u).setCell ⟨g,10,none⟩ v).cell? ⟨ad.block,ad.off+4,none⟩=some (.int .u8 y)from hk _ (r10 u v _ _ _ _ hr)));have h3:=hid (λ(u v:Value)=>(show((W.setCell ⟨g,8,none⟩ u).setCell ⟨g,10,none⟩ v).drew.cell? ad=some (.int .u8 x)/\((W.setCell ⟨g,8,none⟩ u).setCell ⟨g,10,none⟩ v).drew.cell? ⟨ad.block,ad.off+4,none⟩=some (.int .u8 y)from hk _ (r10 u v _ _ _ _ hr)));have hj:=hid (λ(u v t:Value)=>(show(((W.setCell ⟨g,8,none⟩ u).setCell ⟨g,10,none⟩ v).setCell ⟨g,11,none⟩ t).cell? ad=some (.int .u8 x)/\(((W.setCell ⟨g,8,none⟩ u).setCell ⟨g,10,none⟩ v).setCell ⟨g,11,none⟩ t).cell? ⟨ad.block,ad.off+4,none⟩=some (.int .u8 y)from hk _ (r11 u v t _ _ _ _ hr)));have h4:=hid (λ(u v t:Value)=>(show(((W.setCell ⟨g,8,none⟩ u).setCell ⟨g,10,none⟩ v).setCell ⟨g,11,none⟩ t).drew.cell? ad=some (.int .u8 x)/\(((W.setCell ⟨g,8,none⟩ u).setCell ⟨g,10,none⟩ v).setCell ⟨g,11,none⟩ t).drew.cell? ⟨ad.block,ad.off+4,none⟩=some (.int .u8 y)from hk _ (r11 u v t _ _ _ _ hr)));have hl:=hid r11;clear h9 hm hb hr hv hx hy hcell h0 h6 h5 hk r8 r10 r11;go_enter Tryz.func178,Tryz.ntmps178;go_upto_region 1 with fail;go_region_held3 (λW'=>W'.cell? ad=some (.int .u8 x)/\W'.cell? ⟨ad.block,ad.off+4,none⟩=some (.int .u8 y)) (first|with_reducible exact hD.out|with_reducible exact hf.out|with_reducible exact hE.out _|with_reducible exact hh.out _|with_reducible exact hi.out _ _|with_reducible exact h3.out _ _|with_reducible exact hj.out _ _ _|with_reducible exact h4.out _ _ _) (first
  |(go_at_call 113
    with_reducible refine Calls.mono (hn.out _ ?_) ?_
    · first|exact hC.out
    rintro e w1 ⟨rfl,hw⟩;subst w1)
  |(go_at_call 114
    with_reducible refine Calls.mono (hA.out _) ?_
    rintro e w1 ⟨rfl,hw⟩;subst w1)
  |fail)
 all_goals
  have h7:=hid (show Blk (((W.setCell ⟨g,8,none⟩ (.bool (decide (128<=x)))).setCell ⟨g,10,none⟩ (.int .i64 (low v:Nat))).setCell ⟨g,11,none⟩ (.int .i64 (y+1))).drew g 91 (infC (depI i l) (.slice none 0 0) (.slice none 0 0))from HE.out▸((HB.out.put 8 _).put 10 _).put 11 _);have h8:=hid (show W.grownBy (((W.setCell ⟨g,8,none⟩ (.bool (decide (128<=x)))).setCell ⟨g,10,none⟩ (.int .i64 (low v:Nat))).setCell ⟨g,11,none⟩ (.int .i64 (y+1))).drew (some g)from grown_drewN (grown_setCell (grown_setCell (grown_setCell (World.grownBy.refl W (some g)) 8 _) 10 _) 11 _) 1);have ho:=hid (λB A n q (h:Rd W B A n q)=>(show Rd (((W.setCell ⟨g,8,none⟩ (.bool (decide (128<=x)))).setCell ⟨g,10,none⟩ (.int .i64 (low v:Nat))).setCell ⟨g,11,none⟩ (.int .i64 (y+1))).drew B A n q from hl.out _ _ _ B A n q h));generalize (((W.setCell ⟨g,8,none⟩ (.bool (decide (128<=x)))).setCell ⟨g,10,none⟩ (.int .i64 (low v:Nat))).setCell ⟨g,11,none⟩ (.int .i64 (y+1))).drew=W3 at*
  have d10:W3.cell? ⟨g,10,none⟩=some (.int .i64 (low v:Nat)):=by have h:W3.cell? ⟨g,10,none⟩=some (.int .i64 ((depI i l).dep:Nat)):=h7.out.cell 10;rw[HJ.out]at h;exact h
  have d2:W3.cell? ⟨g,2,none⟩=some (.int .i64 (i.stream:Nat)):=h7.out.cell 2;clear c8 c10 c11 f8 f10 f11;have he:(depI i l).dep=low v:=by rw[HJ.out]
  obtain⟨u,hu⟩:∃u,low v=u:=⟨_,rfl⟩;rw[hu]at d10 he;have HU:=hid he;clear hu he;by_cases hd:u=i.stream
  · subst hd
    go_upto_region 2 with fail;go_quiet (fail);have d2n:=λn=>(show(W3.drewN n).cell? ⟨g,2,none⟩=some (.int .i64 (i.stream:Nat))from d2);go_wp2_with fail;refine(fault_any 1 (i.stream:Nat) _).mono ?_;rintro e w1 ⟨rfl,hw⟩;subst w1;go_wp2;go_ret;exact⟨grown_alloc (grown_drewN h8.out _) _,λB A n q hB h=>Rd.alloc ((ho.out B A n q h).drewN _) (Nat.le_trans hB h8.out.size) _,h7.out.alloc _,.inl ⟨HU.out,_,rfl,h8.out.size,Blk.new _ _ _⟩⟩
  · have hH:((u:Int)=(i.stream:Int))=False:=by simp;omega
    have hI:((u:Int)==(i.stream:Int))=false:=by simp;omega
    go_upto_region 2 with fail;go_quiet (fail);go_wp2;go_ret;exact⟨grown_drewN h8.out _,λB A n q _ h=>(ho.out B A n q h).drewN _,h7.out,.inr ⟨by rw[HU.out];exact hd,rfl⟩⟩
theorem rdHeadsP (g:Nat) (i:Inf) (A:Option Addr) (n c B:Nat) (l:List UInt8) (W:World) (hb:Blk W g 91 (infC i (.slice none 0 0) (.slice none 0 0))) (hr:Rd W B A n l) (hB:B<=W.heap.size) (hc:n<=c) (hn:n<=1000000000) (ht:i.typ=1) (hp:i.prio=true) (hs:i.sets=[]):
 Calls Tryz.prog 177 #[.pointer (some ⟨g,0,none⟩),.slice A n c] W (RdPost W g i l):=by
 have hl:=hr.1;have c7:W.cell? ⟨g,7,none⟩=some (.bool i.prio):=hb.cell 7;rw[hp]at c7;by_cases h5:n<5
 · have h8:((n:Int)<5)=True:=by simp;omega
   have HR:=hid (show rd i l= .error (6,0)by simp[rd,ht,hp,hl,h5]);clear hb hr;go_enter Tryz.func177,Tryz.ntmps177;go_wp2_with fail;refine(fault_any 6 0 _).mono ?_;rintro e w1 ⟨rfl,hw⟩;subst w1;go_wp2;go_ret;refine⟨(World.grownBy_alloc W _ _),?_⟩;rw[HR.out];exact⟨_,rfl,Nat.le_refl _,Blk.new _ _ _⟩
 · have h8:((n:Int)<5)=False:=by simp;omega
   have HD:=hid (rdDep g i A n c B l W hb hr hB hc (by omega));have HR:=hid (show rd i l=if(depI i l).dep=i.stream then .error (1,i.stream)else .ok {depI i l with data:=l.drop 5}by
    unfold rd;rw[ht];simp only[hp,hl,if_neg h5,withDep_is,↓reduceIte];by_cases hd:(depI i l).dep=i.stream<;>simp[hd])
   obtain⟨A3,h3,h7⟩:=cut_from byteP hr (5:Int) (k:=5) rfl (by omega) hc;have h9:=hid h3;clear hb hr h3;go_enter Tryz.func177,Tryz.ntmps177;go_wp2_with fail;refine HD.out.mono ?_;rintro e w1 ⟨hg,hk,h4,h0⟩;have HG:=hid hg;have he:=hid h4;have hf:=hid (hk _ _ _ _ hB h9.out);clear hg hk h4;rcases h0 with⟨hd,a,rfl,ha,h6⟩|⟨hd,rfl⟩
   · have HX:=hid (And.intro hd (And.intro ha h6))
     clear hd ha h6;go_wp2;go_ret;refine⟨HG.out,?_⟩;rw[HR.out,if_pos HX.out.1];exact⟨a,rfl,HX.out.2.1,HX.out.2.2⟩
   · have HX:=hid hd
     clear hd;go_wp2_with fail;refine(rest_any g (depI i l) _ _ A3 (n-5) (c-5) B (l.drop 5) _ he.out hf.out (Nat.le_trans hB HG.out.size) (by omega)).mono ?_;rintro e w' ⟨rfl,hg,dv,h1,h2⟩;have hh:=hid (grown_trans HG.out hg);have hi:=hid h1;have hj:=hid (h2.base HG.out.size);clear hg h1 h2;go_wp2;go_ret;refine⟨hh.out,?_⟩;rw[HR.out,if_neg HX.out];refine⟨rfl,_,dv,hi.out,?_,?_⟩
     · show SetO _ _ _ i.sets
       rw[hs];exact setO_nil _ _
     · show Ow _ _ _ dv (l.drop 5).length (l.drop 5)
       rw[List.length_drop,hl];exact hj.out
theorem rdPrio (g:Nat) (i:Inf) (A:Option Addr) (n c B:Nat) (l:List UInt8) (W:World) (hb:Blk W g 91 (infC i (.slice none 0 0) (.slice none 0 0))) (hr:Rd W B A n l) (hB:B<=W.heap.size) (hc:n<=c) (ht:i.typ=2) (hs:i.sets=[]/\i.data=[]):
 Calls Tryz.prog 181 #[.pointer (some ⟨g,0,none⟩),.slice A n c] W (RdPost W g i l):=by
 have hl:=hr.1;have c2:W.cell? ⟨g,2,none⟩=some (.int .i64 (i.stream:Nat)):=hb.cell 2;by_cases h5:n=5
 · subst h5
   have HD:=hid (rdDep g i A 5 c B l W hb hr hB hc (by omega));have HR:=hid (show rd i l=if(depI i l).dep=i.stream then .error (1,i.stream)else .ok (depI i l)by simp only[rd,ht,hl,withDep_is];rfl);clear hb hr;go_enter Tryz.func181,Tryz.ntmps181;go_wp2_with fail;refine HD.out.mono ?_;rintro e w1 ⟨hg,hk,h1,h0⟩;have HG:=hid hg;have h3:=hid h1;clear hg hk h1;rcases h0 with⟨hd,a,rfl,ha,h2⟩|⟨hd,rfl⟩
   · have HX:=hid (And.intro hd (And.intro ha h2))
     clear hd ha h2;go_wp2;go_ret;refine⟨HG.out,?_⟩;rw[HR.out,if_pos HX.out.1];exact⟨a,rfl,HX.out.2.1,HX.out.2.2⟩
   · have HX:=hid hd
     clear hd;go_wp2;go_ret;refine⟨HG.out,?_⟩;rw[HR.out,if_neg HX.out];refine⟨rfl,_,_,h3.out,?_,?_⟩
     · show SetO _ _ _ i.sets
       rw[hs.1];exact setO_nil _ _
     · show Ow _ _ _ _ i.data.length i.data
       rw[hs.2];exact ow_nil _ _ _
 · have h6:((n:Int)=5)=False:=by simp;omega
   have h4:((n:Int) != 5)=true:=by simp;omega
   have HR:=hid (show rd i l= .error (6,i.stream)by simp[rd,ht,hl,h5]);clear hb hr;go_enter Tryz.func181,Tryz.ntmps181;go_wp2_with fail;refine(fault_any 6 (i.stream:Nat) _).mono ?_;rintro e w1 ⟨rfl,hw⟩;subst w1;go_wp2;go_ret;refine⟨(World.grownBy_alloc W _ _),?_⟩;rw[HR.out];exact⟨_,rfl,Nat.le_refl _,Blk.new _ _ _⟩
theorem rdPush (g:Nat) (i:Inf) (A:Option Addr) (n c B:Nat) (l:List UInt8) (W:World) (hb:Blk W g 91 (infC i (.slice none 0 0) (.slice none 0 0))) (hr:Rd W B A n l) (hB:B<=W.heap.size) (hc:n<=c) (hn:n<=1000000000) (ht:i.typ=5) (hs:i.sets=[]):
 Calls Tryz.prog 187 #[.pointer (some ⟨g,0,none⟩),.slice A n c] W (RdPost W g i l):=by
 have hl:=hr.1;by_cases h4:n<4
 · have hd:((n:Int)<4)=True:=by simp;omega
   have HR:=hid (show rd i l= .error (6,0)by simp[rd,ht,hl,h4]);clear hb hr;go_enter Tryz.func187,Tryz.ntmps187;go_wp2_with fail;refine(fault_any 6 0 _).mono ?_;rintro e w1 ⟨rfl,hw⟩;subst w1;go_wp2;go_ret;refine⟨(World.grownBy_alloc W _ _),?_⟩;rw[HR.out];exact⟨_,rfl,Nat.le_refl _,Blk.new _ _ _⟩
 · have hd:((n:Int)<4)=False:=by simp;omega
   obtain⟨A1,h3,h8⟩:=cut_head byteP hr (4:Int) (k:=4) rfl (by omega) hc;obtain⟨A3,h5,h9⟩:=cut_from byteP hr (4:Int) (k:=4) rfl (by omega) hc;have h6:ofB 0 (l.take 4)<9223372036854775808:=by
    have h1:=ofB_lt (l.take 4) 0;have h2:256^(l.take 4).length<=256^4:=Nat.pow_le_pow_right (by omega) (List.length_take_le _ _);omega
   have HR:=hid (show rd i l=if low (ofB 0 (l.take 4))=0 then .error (1,0)else .ok {i with promise:=low (ofB 0 (l.take 4)),data:=l.drop 4}by simp[rd,ht,hl,h4]);have he:=hid (of_any A1 4 c (l.take 4) W B h3 (Nat.le_refl _));have h7:=hid (low_any (ofB 0 (l.take 4)) W h6);obtain⟨v,hv⟩:∃v,low (ofB 0 (l.take 4))=v:=⟨_,rfl⟩;rw[hv]at h7 HR;have c15:W.cell? ⟨g,15,none⟩=some (.int .i64 (i.promise:Nat)):=hb.cell 15;have f15:=hb.frozen 15;have HB:=hid hb;have hf:=hid (h5.set_far c15 (by simp) (.int .i64 (v:Nat)));clear h3 h5 h6 hb hr hv;go_enter Tryz.func187,Tryz.ntmps187;go_wp2_with fail;refine he.out.mono ?_;rintro e w1 ⟨rfl,hw⟩;subst w1;go_wp2_with fail;refine h7.out.mono ?_;rintro e w1 ⟨rfl,hw⟩;subst w1;by_cases h0:v=0
   · subst h0
     rw[if_pos rfl]at HR;go_wp2_with fail;refine(fault_any 1 0 _).mono ?_;rintro e w1 ⟨rfl,hw⟩;subst w1;go_wp2;go_ret;refine⟨grown_alloc (grown_setCell (World.grownBy.refl W (some g)) 15 _) _,?_⟩;rw[HR.out];refine⟨_,rfl,by simp,?_⟩;have h:=Blk.new (W.setCell ⟨g,15,none⟩ (.int .i64 0)) 199 #[.int .i64 1,.int .i64 0];rw[show(W.setCell ⟨g,15,none⟩ (.int .i64 0)).heap.size=W.heap.size by simp]at h;exact h
   · have hm:¬(v:Int)=0:=by omega
     rw[if_neg h0]at HR;have hh:=hid (HB.out.put 15 (.int .i64 (v:Nat)));have HZ:=hid (show(W.setCell ⟨g,15,none⟩ (.int .i64 (v:Nat))).heap.size=W.heap.size by simp);go_wp2_with fail;refine(rest_any g {i with promise:=v} _ _ A3 (n-4) (c-4) B (l.drop 4) _ hh.out hf.out (by rw[HZ.out];exact hB) (by omega)).mono ?_;rintro e w' ⟨rfl,hg,dv,h1,h2⟩;rw[HZ.out]at h2;have hi:=hid (grown_trans (grown_setCell (World.grownBy.refl W (some g)) 15 (.int .i64 (v:Nat))) hg);have hj:=hid h1;have hk:=hid h2;clear hg h1 h2;go_wp2;go_ret;refine⟨hi.out,?_⟩;rw[HR.out];refine⟨rfl,_,dv,hj.out,?_,?_⟩
     · show SetO _ _ _ i.sets
       rw[hs];exact setO_nil _ _
     · show Ow _ _ _ dv (l.drop 4).length (l.drop 4)
       rw[List.length_drop,hl];exact hk.out
end Go.Proofs.YtkpppjhbmnfmkaaGreatDoor
end

section
set_option maxHeartbeats 1000000
namespace Go.Proofs.YtkpppjhbmnfmkaaGreatDoor
open Lib (hid)
open Go.RowKit Go.Own Go.Own.Fr Go.Own.Im
attribute [local go_sem] Oper.semAt_some
def fltR (c k s:Nat):Array Value:=#[.int .i64 (c:Nat),.int .i64 (k:Nat),.int .i64 (s:Nat),.slice none 0 0]
theorem infSize5:(Tryz.prog.info? 96).map (·.size)=some 18:=by kernel_rfl
theorem fltSize:(Tryz.prog.info? 98).map (·.size)=some 4:=by kernel_rfl
theorem results_ofh2 (tmps:Array Value) (w:World) (g:Nat) (cs:Array Value) (hs:∃a b c d,cs= #[a,b,c,d]) (ht:tmps[4]?=some (.pointer (some ⟨g,0,none⟩))) (hb:Blk w g 98 cs):
 (results Tryz.f79 tmps).run Tryz.prog w= .ok (.agg cs) w:=by
 obtain⟨a,b,c,d,rfl⟩:=hs;have c0:w.cell? ⟨g,0,none⟩=some a:=hb.cell 0;have c1:w.cell? ⟨g,1,none⟩=some b:=hb.cell 1;have c2:w.cell? ⟨g,2,none⟩=some c:=hb.cell 2;have c3:w.cell? ⟨g,3,none⟩=some d:=hb.cell 3;simp[results,Tryz.results79,go_sem,ht,c0,c1,c2,c3]
theorem results_fnone (tmps:Array Value) (w:World) (g:Nat) (cs:Array Value) (hs:∃a b c d,cs= #[a,b,c,d]) (ht:tmps[0]?=some (.pointer (some ⟨g,0,none⟩))) (hb:Blk w g 98 cs):
 (results Tryz.f122 tmps).run Tryz.prog w= .ok (.agg cs) w:=by
 obtain⟨a,b,c,d,rfl⟩:=hs;have c0:w.cell? ⟨g,0,none⟩=some a:=hb.cell 0;have c1:w.cell? ⟨g,1,none⟩=some b:=hb.cell 1;have c2:w.cell? ⟨g,2,none⟩=some c:=hb.cell 2;have c3:w.cell? ⟨g,3,none⟩=some d:=hb.cell 3;simp[results,Tryz.results122,go_sem,ht,c0,c1,c2,c3]
theorem ofh2_any (k s:Nat) (w:World):Calls Tryz.prog 79 #[.int .i64 (k:Nat),.int .i64 (s:Nat)] w λe w'=>e= .returned (.agg (fltR 99 k s))/\Below w.heap.size w w':=by
 have HX:=hid (show Blk (w.alloc (.cells #[.int .i64 0,.int .i64 0,.int .i64 0,.slice none 0 0] 98)) w.heap.size 98 (fltR 0 0 0)from Blk.new w _ _);have h0:=hid ((Below.refl w.heap.size w).alloc (Nat.le_refl _) (.cells #[.int .i64 0,.int .i64 0,.int .i64 0,.slice none 0 0] 98));go_enter Tryz.func79,Tryz.ntmps79;go_upto_region 1 with fail;generalize w.alloc (.cells #[.int .i64 0,.int .i64 0,.int .i64 0,.slice none 0 0] 98)=W0 at*
 have f0:=HX.out.frozen 0;have f1:=HX.out.frozen 1;have f2:=HX.out.frozen 2;have f3:=HX.out.frozen 3;have c0:W0.cell? ⟨w.heap.size,0,none⟩=some (.int .i64 0):=HX.out.cell 0;have c1:W0.cell? ⟨w.heap.size,1,none⟩=some (.int .i64 0):=HX.out.cell 1;have c2:W0.cell? ⟨w.heap.size,2,none⟩=some (.int .i64 0):=HX.out.cell 2;have c3:W0.cell? ⟨w.heap.size,3,none⟩=some (.slice none 0 0):=HX.out.cell 3;go_wp2;exact bodyPost_ret (results_ofh2 _ _ w.heap.size _ ⟨_,_,_,_,rfl⟩ rfl (Blk.four_put HX.out rfl _ _ _ _)) rfl ⟨rfl,below_four h0.out (Nat.le_refl _) _ _ _ _⟩
theorem fnone_any (w:World):Calls Tryz.prog 122 #[] w λe w'=>e= .returned (.agg (fltR 0 0 0))/\Below w.heap.size w w':=by
 have HX:=hid (show Blk (w.alloc (.cells #[.int .i64 0,.int .i64 0,.int .i64 0,.slice none 0 0] 98)) w.heap.size 98 (fltR 0 0 0)from Blk.new w _ _);have h0:=hid ((Below.refl w.heap.size w).alloc (Nat.le_refl _) (.cells #[.int .i64 0,.int .i64 0,.int .i64 0,.slice none 0 0] 98));go_enter Tryz.func122,Tryz.ntmps122;go_upto_region 1 with fail;generalize w.alloc (.cells #[.int .i64 0,.int .i64 0,.int .i64 0,.slice none 0 0] 98)=W0 at*
 have f0:=HX.out.frozen 0;have f1:=HX.out.frozen 1;have f2:=HX.out.frozen 2;have f3:=HX.out.frozen 3;have c0:W0.cell? ⟨w.heap.size,0,none⟩=some (.int .i64 0):=HX.out.cell 0;have c1:W0.cell? ⟨w.heap.size,1,none⟩=some (.int .i64 0):=HX.out.cell 1;have c2:W0.cell? ⟨w.heap.size,2,none⟩=some (.int .i64 0):=HX.out.cell 2;have c3:W0.cell? ⟨w.heap.size,3,none⟩=some (.slice none 0 0):=HX.out.cell 3;go_wp2;exact bodyPost_ret (results_fnone _ _ w.heap.size _ ⟨_,_,_,_,rfl⟩ rfl (Blk.four_put HX.out rfl _ _ _ _)) rfl ⟨rfl,below_four h0.out (Nat.le_refl _) _ _ _ _⟩
end Go.Proofs.YtkpppjhbmnfmkaaGreatDoor
end

section
set_option maxHeartbeats 8000000
set_option maxRecDepth 100000
namespace Go.Proofs.YtkpppjhbmnfmkaaGreatDoor
open Lib (hid)
open Go.RowKit Go.Own Go.Own.Fr Go.Own.Im
attribute [local go_sem] Oper.semAt_some
theorem ten (t:Nat):t=0\/t=1\/t=2\/t=3\/t=4\/t=5\/t=6\/t=7\/t=8\/t=9\/9<t:=by omega
theorem none_ten {t:Nat} (h:9<t):((((t:Int)=0)=False/\((t:Int)=1)=False/\((t:Int)=2)=False/\((t:Int)=3)=False/\((t:Int)=4)=False)/\((t:Int)=5)=False/\((t:Int)=6)=False/\((t:Int)=7)=False/\((t:Int)=8)=False/\((t:Int)=9)=False)/\
 ((((t:Int)==0)=false/\((t:Int)==1)=false/\((t:Int)==2)=false/\((t:Int)==3)=false/\((t:Int)==4)=false)/\((t:Int)==5)=false/\((t:Int)==6)=false/\((t:Int)==7)=false/\((t:Int)==8)=false/\((t:Int)==9)=false):=by
 refine⟨⟨⟨?_,?_,?_,?_,?_⟩,?_,?_,?_,?_,?_⟩,⟨?_,?_,?_,?_,?_⟩,?_,?_,?_,?_,?_⟩<;>simp<;>omega
def strW (t:Nat):Int:=if(rowOf t).1=false then 1 else if(rowOf t).2.1=false then 0 else -1
theorem rstream_any (t:Nat) (w:World):Calls Tryz.prog 78 #[.int .i64 (t:Nat)] w λe w'=>e= .returned (.int .i64 (strW t))/\w'=w:=by
 rcases ten t with rfl|rfl|rfl|rfl|rfl|rfl|rfl|rfl|rfl|rfl|h9
 all_goals try
  go_enter Tryz.func78,Tryz.ntmps78;go_wp2;go_ret;exact⟨rfl,rfl⟩
 obtain⟨⟨⟨k0,k1,k2,k3,k4⟩,k5,k6,k7,k8,k9⟩,⟨j0,j1,j2,j3,j4⟩,j5,j6,j7,j8,j9⟩:=none_ten h9;have HW:=hid (show strW t= -1 by unfold strW;rw[rowOf_big t (by omega)];rfl);clear h9;go_enter Tryz.func78,Tryz.ntmps78;go_wp2;go_ret;exact⟨by rw[HW.out];rfl,rfl⟩
theorem rpads_any (t:Nat) (w:World):Calls Tryz.prog 81 #[.int .i64 (t:Nat)] w λe w'=>e= .returned (.bool (decide (t=0\/t=1\/t=5)))/\w'=w:=by
 rcases ten t with rfl|rfl|rfl|rfl|rfl|rfl|rfl|rfl|rfl|rfl|h9
 all_goals try
  go_enter Tryz.func81,Tryz.ntmps81;go_wp2;go_ret;exact⟨rfl,rfl⟩
 obtain⟨⟨⟨k0,k1,k2,k3,k4⟩,k5,k6,k7,k8,k9⟩,⟨j0,j1,j2,j3,j4⟩,j5,j6,j7,j8,j9⟩:=none_ten h9;have HW:=hid (show decide (t=0\/t=1\/t=5)=false from decide_eq_false (by omega));clear h9;go_enter Tryz.func81,Tryz.ntmps81;go_wp2;go_ret;exact⟨by rw[HW.out];rfl,rfl⟩
def sizF (t f s n:Nat):Option (Nat×Nat):=
 if t=2 then(if n=5 then none else some (6,s))else
 if(t=3\/t=8)/\n≠4\/t=6/\n≠8\/t=4/\(f&&& 1=1/\0<n\/n % 6≠0)\/t=7/\n<8 then some (6,0)else none
def fltO:Option (Nat×Nat)->Array Value
 |none=>fltR 0 0 0
 |some x=>fltR 99 x.1 x.2
theorem results_sizes (tmps:Array Value) (w:World) (g:Nat) (cs:Array Value) (hs:∃a b c d,cs= #[a,b,c,d]) (ht:tmps[2]?=some (.pointer (some ⟨g,0,none⟩))) (hb:Blk w g 98 cs):
 (results Tryz.f80 tmps).run Tryz.prog w= .ok (.agg cs) w:=by
 obtain⟨a,b,c,d,rfl⟩:=hs;have c0:w.cell? ⟨g,0,none⟩=some a:=hb.cell 0;have c1:w.cell? ⟨g,1,none⟩=some b:=hb.cell 1;have c2:w.cell? ⟨g,2,none⟩=some c:=hb.cell 2;have c3:w.cell? ⟨g,3,none⟩=some d:=hb.cell 3;simp[results,Tryz.results80,go_sem,ht,c0,c1,c2,c3]
structure SzF (W X:World) (t f s:Nat) (v:Value) (z:Array Value):Prop where
 f:Blk X W.heap.size 24 #[.int .i64 (t:Nat),.int .i64 (f:Nat),.int .i64 (s:Nat),v]
 z:Blk X (W.heap.size+1) 98 z
 b:Below W.heap.size W X
theorem sz_start (W:World) (t f s:Nat) (v:Value):∃W0:World,(W.alloc (.cells #[.int .i64 (t:Nat),.int .i64 (f:Nat),.int .i64 (s:Nat),v] 24)).alloc (.cells #[.int .i64 0,.int .i64 0,.int .i64 0,.slice none 0 0] 98)=W0/\SzF W W0 t f s v (fltR 0 0 0):=by
 refine⟨_,rfl,(Blk.new W _ _).alloc _,?_,((Below.refl _ _).alloc (Nat.le_refl _) _).alloc (by simp) _⟩;have h:=Blk.new (W.alloc (.cells #[.int .i64 (t:Nat),.int .i64 (f:Nat),.int .i64 (s:Nat),v] 24)) 98 (fltR 0 0 0);rw[show(W.alloc (.cells #[.int .i64 (t:Nat),.int .i64 (f:Nat),.int .i64 (s:Nat),v] 24)).heap.size=W.heap.size+1 by simp]at h;exact h
theorem SzF.below {W X Y:World} {t f s:Nat} {v:Value} {z:Array Value} (h:SzF W X t f s v z) (hb:Below X.heap.size X Y):SzF W Y t f s v z:=
 ⟨h.f.below hb h.f.lt,h.z.below hb h.z.lt,h.b.trans (hb.mono h.b.size)⟩
theorem rsizes_any (t f s:Nat) (A:Option Addr) (n c:Nat) (W:World) (hf:f<=255) (hn:n<=1000000):
 Calls Tryz.prog 80 #[.agg #[.int .i64 (t:Nat),.int .i64 (f:Nat),.int .i64 (s:Nat),.slice A n c]] W λe w'=>e= .returned (.agg (fltO (sizF t f s n)))/\Below W.heap.size W w':=by
 have HO:=hid (show∀W,Calls Tryz.prog 79 #[.int .i64 6,.int .i64 0] W (λe w'=>e= .returned (.agg (fltR 99 6 0))/\Below W.heap.size W w')fromλW=>ofh2_any 6 0 W);have HP:=hid (show∀W,Calls Tryz.prog 79 #[.int .i64 6,.int .i64 (s:Nat)] W (λe w'=>e= .returned (.agg (fltR 99 6 s))/\Below W.heap.size W w')fromλW=>ofh2_any 6 s W);have HN:=hid (λW=>fnone_any W);obtain⟨q,hq⟩:∃q,f&&& 1=q:=⟨_,rfl⟩;obtain⟨r,hr⟩:∃r,n % 6=r:=⟨_,rfl⟩;have e1:bits .and .i64 (f:Int) 1=((f&&& 1:Nat):Int):=and_nat f 1 (by omega) (by omega);rw[hq]at e1;have h3:((n:Int).tmod 6)=(r:Int):=by rw[<-hr];rfl
 have h1:((n:Int) % 6)=(r:Int):=by rw[<-hr];rfl
 have HQ:=hid (And.intro hq hr);clear hq hr hf hn;go_enter Tryz.func80,Tryz.ntmps80;go_upto_region 1 with fail;obtain⟨W0,h2,hz⟩:=sz_start W t f s (.slice A n c);rw[h2];have HZ:=hid hz;have x0:W0.cell? ⟨W.heap.size,0,none⟩=some (.int .i64 (t:Nat)):=hz.f.cell 0;have x1:W0.cell? ⟨W.heap.size,1,none⟩=some (.int .i64 (f:Nat)):=hz.f.cell 1;have x2:W0.cell? ⟨W.heap.size,2,none⟩=some (.int .i64 (s:Nat)):=hz.f.cell 2;have x3:W0.cell? ⟨W.heap.size,3,none⟩=some (.slice A n c):=hz.f.cell 3;clear h2 hz;go_wp2_with (first
  |(go_at_call 79
    first|with_reducible refine Calls.mono (HO.out _) ?_|with_reducible refine Calls.mono (HP.out _) ?_
    rintro e W1 ⟨rfl,hb⟩;have h0:=hid (HZ.out.below hb);have f0:=h0.out.z.frozen 0;have f1:=h0.out.z.frozen 1;have f2:=h0.out.z.frozen 2;have f3:=h0.out.z.frozen 3;have c0:W1.cell? ⟨W.heap.size+1,0,none⟩=some (.int .i64 0):=h0.out.z.cell 0;have c1:W1.cell? ⟨W.heap.size+1,1,none⟩=some (.int .i64 0):=h0.out.z.cell 1;have c2:W1.cell? ⟨W.heap.size+1,2,none⟩=some (.int .i64 0):=h0.out.z.cell 2;have c3:W1.cell? ⟨W.heap.size+1,3,none⟩=some (.slice none 0 0):=h0.out.z.cell 3;simp only[fltR];clear hb)
  |(go_at_call 122
    with_reducible refine Calls.mono (HN.out _) ?_
    rintro e W1 ⟨rfl,hb⟩;have h0:=hid (HZ.out.below hb);have f0:=h0.out.z.frozen 0;have f1:=h0.out.z.frozen 1;have f2:=h0.out.z.frozen 2;have f3:=h0.out.z.frozen 3;have c0:W1.cell? ⟨W.heap.size+1,0,none⟩=some (.int .i64 0):=h0.out.z.cell 0;have c1:W1.cell? ⟨W.heap.size+1,1,none⟩=some (.int .i64 0):=h0.out.z.cell 1;have c2:W1.cell? ⟨W.heap.size+1,2,none⟩=some (.int .i64 0):=h0.out.z.cell 2;have c3:W1.cell? ⟨W.heap.size+1,3,none⟩=some (.slice none 0 0):=h0.out.z.cell 3;simp only[fltR];clear hb)
  |fail)
 all_goals
  refine bodyPost_ret (results_sizes _ _ (W.heap.size+1) _ ⟨_,_,_,_,rfl⟩ rfl (Blk.four_put h0.out.z rfl _ _ _ _)) rfl ⟨congrArg (λz=>Ending.returned (.agg z)) ?_,below_four h0.out.b (by omega) _ _ _ _⟩;obtain⟨hq,hr⟩:=HQ.out;clear HO HP HN HQ HZ x0 x1 x2 x3 e1 h3 h1 h0 f0 f1 f2 f3 c0 c1 c2 c3;simp only[beq_iff_eq,bne_iff_ne,beq_eq_false_iff_ne,bne_eq_false_iff_eq,ne_eq]at*
  first
   |exact(congrArg fltO (show sizF t f s n=none from by unfold sizF;rw[hq,hr];(repeat' split)<;>first|rfl|(exfalso;omega))).symm
   |exact(congrArg fltO (show sizF t f s n=some (6,0)from by unfold sizF;rw[hq,hr];(repeat' split)<;>first|rfl|(exfalso;omega))).symm
   |exact(congrArg fltO (show sizF t f s n=some (6,s)from by unfold sizF;rw[hq,hr];(repeat' split)<;>first|rfl|(exfalso;omega))).symm
end Go.Proofs.YtkpppjhbmnfmkaaGreatDoor
end
