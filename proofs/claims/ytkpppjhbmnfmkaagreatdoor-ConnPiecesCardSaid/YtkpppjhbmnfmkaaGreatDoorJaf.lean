/-
  
  
-/
import Derived.Test.YtkpppjhbmnfmkaaGreatDoorFs
import Derived.Test.YtkpppjhbmnfmkaaGreatDoorJab
import Derived.Shelf.Abstract
import Derived.Test.YtkpppjhbmnfmkaaGreatDoorJaa
import Derived.Deep.RegionHeld3
import Derived.Deep.RegionLaw
import Derived.Deep.DrawnRows
import Derived.Deep.CutBlock
set_option linter.unusedSimpArgs false
set_option linter.unusedVariables false
section
set_option maxHeartbeats 8000000
set_option maxRecDepth 100000
namespace Go.Own
open Lib (hid)
open Go.RowKit
theorem Rd.set_far {w:World} {B n:Nat} {A:Option Addr} {l:List UInt8} (h:Rd w B A n l) {q:Addr} {x:Value} (hq:w.cell? q=some x) (hx:∀y,x≠ .int .u8 y) (u:Value):Rd (w.setCell q u) B A n l:=
 ⟨h.1,λhn=>by
   obtain⟨ad,e,hb,hc⟩:=h.2 hn;refine⟨ad,e,hb,λj hj=>?_⟩;have h0:=hc j hj;rw[World.cell?_setCell_other w q (ad.add j) u (λe=>by
    subst e;rw[h0]at hq;injection hq with hq
    exact hx _ hq.symm)]
   exact h0⟩
end Go.Own
namespace Go.Proofs.YtkpppjhbmnfmkaaGreatDoor
open Lib (hid)
open Go.RowKit Go.Own Go.Own.Fr Go.Own.Im
def infC (i:Inf) (sv dv:Value):Array Value:=
 #[.int .i64 (i.typ:Nat),.int .i64 (i.flags:Nat),.int .i64 (i.stream:Nat),.bool i.endd,.bool i.endHeads,.bool i.ack,.bool i.padded,.bool i.prio,.bool i.alone,.int .i64 (i.pad:Nat),.int .i64 (i.dep:Nat),.int .i64 (i.weight:Nat),.int .i64 (i.code:Nat),.int .i64 (i.last:Nat),.int .i64 (i.inc:Nat),.int .i64 (i.promise:Nat),sv,dv]
def setC (s:Nat×Nat):Array Value:=#[.int .i64 (s.1:Nat),.int .i64 (s.2:Nat)]
def SetO (w:World) (base:Nat) (v:Value) (l:List (Nat×Nat)):Prop:=Cm.Ew setC 87 2 w base v l
theorem setO_nil (w:World) (base:Nat):SetO w base (.slice none 0 0) []:=Cm.Ew.nil _ _ _ _ _
theorem ow_nil (w:World) (base:Nat) (e:TypeId):Ow w base e (.slice none 0 0) 0 []:=⟨rfl,.inl ⟨rfl,rfl⟩⟩
def RdPost (W:World) (g:Nat) (i:Inf) (l:List UInt8) (e:Ending) (w':World):Prop:=
 W.grownBy w' (some g)/\match rd i l with
  | .ok j=>e= .returned .nilIface/\∃sv dv,Blk w' g 91 (infC j sv dv)/\SetO w' W.heap.size sv j.sets/\Ow w' W.heap.size 5 dv j.data.length j.data
  | .error x=>∃a,e= .returned (.iface 196 (.pointer (some ⟨a,0,none⟩)))/\W.heap.size<=a/\Blk w' a 199 #[.int .i64 (x.1:Nat),.int .i64 (x.2:Nat)]
theorem rdPost_ret {W:World} {g:Nat} {i:Inf} {l:List UInt8} {e:Ending} {w':World} (h:RdPost W g i l e w'):∃v,e= .returned v:=by
 obtain⟨_,h⟩:=h;cases hr:rd i l with
 |ok j=>rw[hr]at h;exact⟨_,h.1⟩
 |error x=>rw[hr]at h;obtain⟨a,h,_⟩:=h;exact⟨_,h⟩
theorem rest_any (g:Nat) (i:Inf) (sv dv:Value) (A:Option Addr) (n c B:Nat) (l:List UInt8) (W:World) (hb:Blk W g 91 (infC i sv dv)) (hr:Rd W B A n l) (hB:B<=W.heap.size) (hn:n<=1000000000000):
 Calls Tryz.prog 175 #[.pointer (some ⟨g,0,none⟩),.slice A n c] W λe w'=>e= .returned .nilIface/\W.grownBy w' (some g)/\∃dv',Blk w' g 91 (infC {i with data:=l} sv dv')/\Ow w' W.heap.size 5 dv' n l:=by
 have HC:=hid (fcopied_any A n c l W B hr hB hn);have HB:=hid hb;clear hr hn hb;go_enter Tryz.func175,Tryz.ntmps175;go_wp2_with fail;refine HC.out.mono ?_;rintro e w1 ⟨rfl,ho,h0⟩;have HO:=hid ho;have HL:=hid h0;have hk:=HB.out.below h0 HB.out.lt;have f17:=hk.frozen 17;have c17:w1.cell? ⟨g,17,none⟩=some dv:=hk.cell 17;have HK:=hid hk;clear ho h0 hk;go_wp2;go_ret;refine⟨rfl,?_,.slice (some ⟨W.heap.size,0,none⟩) n n,HK.out.put 17 _,?_⟩
 · exact grown_setCell ((grown_of_below HL.out _)) 17 _
 · exact HO.out.grown (grown_setCell (World.grownBy.refl w1 (some g)) 17 _) (.inr (by
    intro e;have e2:some W.heap.size=some g:=e;injection e2 with e2
    have:=HB.out.lt;omega))
theorem rdReset (g:Nat) (i:Inf) (A:Option Addr) (c B:Nat) (l:List UInt8) (W:World) (hb:Blk W g 91 (infC i (.slice none 0 0) (.slice none 0 0))) (hr:Rd W B A 4 l) (ht:i.typ=3) (hs:i.sets=[]/\i.data=[]):
 Calls Tryz.prog 183 #[.pointer (some ⟨g,0,none⟩),.slice A 4 c] W (RdPost W g i l):=by
 have hl:=hr.1;have HC:=hid (of_any A 4 c l W B hr (Nat.le_refl _));have HB:=hid hb;have f12:=hb.frozen 12;have c12:W.cell? ⟨g,12,none⟩=some (.int .i64 (i.code:Nat)):=hb.cell 12;have HR:=hid (show rd i l= .ok {i with code:=ofB 0 l}by simp[rd,ht,hl]);clear hr hb;go_enter Tryz.func183,Tryz.ntmps183;go_wp2_with fail;refine HC.out.mono ?_;rintro e w1 ⟨rfl,hw⟩;subst w1;go_wp2;go_ret;refine⟨grown_setCell (World.grownBy.refl W (some g)) 12 _,?_⟩;rw[HR.out];refine⟨rfl,_,_,HB.out.put 12 _,?_,?_⟩
 · show SetO _ _ _ i.sets
   rw[hs.1];exact setO_nil _ _
 · show Ow _ _ _ _ i.data.length i.data
   rw[hs.2];exact ow_nil _ _ _
theorem rdWindow (g:Nat) (i:Inf) (A:Option Addr) (c B:Nat) (l:List UInt8) (W:World) (hb:Blk W g 91 (infC i (.slice none 0 0) (.slice none 0 0))) (hr:Rd W B A 4 l) (ht:i.typ=8) (hs:i.sets=[]/\i.data=[]):
 Calls Tryz.prog 191 #[.pointer (some ⟨g,0,none⟩),.slice A 4 c] W (RdPost W g i l):=by
 have hl:=hr.1;have HC:=hid (of_any A 4 c l W B hr (Nat.le_refl _));have h2:=hid (low_any (ofB 0 l) W (by have h1:=ofB_lt l 0;rw[hl]at h1;omega));have HB:=hid hb;have f14:=hb.frozen 14;have c14:W.cell? ⟨g,14,none⟩=some (.int .i64 (i.inc:Nat)):=hb.cell 14;have c2:W.cell? ⟨g,2,none⟩=some (.int .i64 (i.stream:Nat)):=hb.cell 2;have HR:=hid (show rd i l=if low (ofB 0 l)=0 then .error (1,i.stream)else .ok {i with inc:=low (ofB 0 l)}by simp[rd,ht,hl]);clear hr hb;obtain⟨v,hv⟩:∃v,low (ofB 0 l)=v:=⟨_,rfl⟩;rw[hv]at h2 HR;go_enter Tryz.func191,Tryz.ntmps191;go_wp2_with fail;refine HC.out.mono ?_;rintro e w1 ⟨rfl,hw⟩;subst w1;go_wp2_with fail;refine h2.out.mono ?_;rintro e w1 ⟨rfl,hw⟩;subst w1;by_cases h0:v=0
 · subst h0
   rw[if_pos rfl]at HR;go_wp2_with fail;refine(fault_any 1 (i.stream:Nat) _).mono ?_;rintro e w1 ⟨rfl,hw⟩;subst w1;go_wp2;go_ret;refine⟨grown_alloc (grown_setCell (World.grownBy.refl W (some g)) 14 _) _,?_⟩;rw[HR.out];refine⟨_,rfl,by simp,?_⟩;have h:=Blk.new (W.setCell ⟨g,14,none⟩ (.int .i64 0)) 199 #[.int .i64 1,.int .i64 (i.stream:Nat)];rw[show(W.setCell ⟨g,14,none⟩ (.int .i64 0)).heap.size=W.heap.size by simp]at h;exact h
 · have h3:¬(v:Int)=0:=by omega
   rw[if_neg h0]at HR;go_wp2;go_ret;refine⟨grown_setCell (World.grownBy.refl W (some g)) 14 _,?_⟩;rw[HR.out];refine⟨rfl,_,_,HB.out.put 14 _,?_,?_⟩
   · show SetO _ _ _ i.sets
     rw[hs.1];exact setO_nil _ _
   · show Ow _ _ _ _ i.data.length i.data
     rw[hs.2];exact ow_nil _ _ _
theorem rest_rd (g:Nat) (i:Inf) (A:Option Addr) (n c B:Nat) (l:List UInt8) (W:World) (hb:Blk W g 91 (infC i (.slice none 0 0) (.slice none 0 0))) (hr:Rd W B A n l) (hB:B<=W.heap.size) (hn:n<=1000000000000) (hs:i.sets=[]) (hrd:rd i l= .ok {i with data:=l}):
 Calls Tryz.prog 175 #[.pointer (some ⟨g,0,none⟩),.slice A n c] W (RdPost W g i l):=by
 refine(rest_any g i _ _ A n c B l W hb hr hB hn).mono ?_;rintro e w' ⟨rfl,hg,dv,h1,h2⟩;refine⟨hg,?_⟩;rw[hrd];refine⟨rfl,_,dv,h1,?_,?_⟩
 · show SetO _ _ _ i.sets
   rw[hs];exact setO_nil _ _
 · show Ow _ _ _ dv l.length l
   rw[hr.1];exact h2
theorem exact_any (g g0 k K:Nat) (i:Inf) (A:Option Addr) (n c B:Nat) (l:List UInt8) (W:World) (hE:Enters Tryz.prog K) (hx:ExC W g0 (k:Nat) (.func (.func K) #[] #[])) (hr:Rd W B A n l)
 (h1:n≠k->rd i l= .error (6,0)) (h0:n=k->Calls Tryz.prog K #[.pointer (some ⟨g,0,none⟩),.slice A n c] W (RdPost W g i l)):
 Calls Tryz.prog 215 #[.pointer (some ⟨g,0,none⟩),.slice A n c,.pointer (some ⟨g0,0,none⟩),.pointer (some ⟨g0+1,0,none⟩)] W (RdPost W g i l):=by
 have c0:W.cell? ⟨g0,0,none⟩=some (.int .i64 (k:Nat)):=hx.1.cell 0;have c1:W.cell? ⟨g0+1,0,none⟩=some (.func (.func K) #[] #[]):=hx.2.cell 0;have hE:∀args w,(callFunc K args).run Tryz.prog w= .ok (.enter K args) w:=hE;have HY:=hid h0;have HN:=hid h1;clear h0 h1 hx hr;go_enter Tryz.func215,Tryz.ntmps215;by_cases hk:n=k
 · subst hk
   go_wp2_with fail;refine(HY.out (by trivial)).mono ?_;intro e w' h;obtain⟨v,rfl⟩:=rdPost_ret h;have H:=hid h;clear h;go_wp2;go_ret;exact H.out
 · have h2:((n:Int)=(k:Int))=False:=by simp;omega
   go_wp2_with fail;refine(fault_any 6 0 _).mono ?_;rintro e w1 ⟨rfl,hw⟩;subst w1;go_wp2;go_ret;refine⟨(World.grownBy_alloc W _ _),?_⟩;rw[HN.out hk];exact⟨_,rfl,Nat.le_refl _,Blk.new _ _ _⟩
theorem rdHeads (g:Nat) (i:Inf) (A:Option Addr) (n c B:Nat) (l:List UInt8) (W:World) (hb:Blk W g 91 (infC i (.slice none 0 0) (.slice none 0 0))) (hr:Rd W B A n l) (hB:B<=W.heap.size) (hn:n<=1000000000000) (ht:i.typ=1) (hp:i.prio=false) (hs:i.sets=[]):
 Calls Tryz.prog 177 #[.pointer (some ⟨g,0,none⟩),.slice A n c] W (RdPost W g i l):=by
 have HC:=hid (rest_rd g i A n c B l W hb hr hB hn hs (by simp[rd,ht,hp]));have c7:W.cell? ⟨g,7,none⟩=some (.bool i.prio):=hb.cell 7;rw[hp]at c7;clear hb hr;go_enter Tryz.func177,Tryz.ntmps177;go_wp2_with fail;refine HC.out.mono ?_;intro e w' h;obtain⟨v,rfl⟩:=rdPost_ret h;have H:=hid h;clear h;go_wp2;go_ret;exact H.out
theorem rdAway (g:Nat) (i:Inf) (A:Option Addr) (n c B:Nat) (l:List UInt8) (W:World) (hb:Blk W g 91 (infC i (.slice none 0 0) (.slice none 0 0))) (hr:Rd W B A n l) (hB:B<=W.heap.size) (hc:n<=c) (hn:n<=1000000000000) (ht:i.typ=7) (hs:i.sets=[]):
 Calls Tryz.prog 189 #[.pointer (some ⟨g,0,none⟩),.slice A n c] W (RdPost W g i l):=by
 have hl:=hr.1;by_cases h8:n<8
 · have ho:((n:Int)<8)=True:=by simp;omega
   have HR:=hid (show rd i l= .error (6,0)by simp[rd,ht,hl,h8]);clear hb hr;go_enter Tryz.func189,Tryz.ntmps189;go_wp2_with fail;refine(fault_any 6 0 _).mono ?_;rintro e w1 ⟨rfl,hw⟩;subst w1;go_wp2;go_ret;refine⟨(World.grownBy_alloc W _ _),?_⟩;rw[HR.out];exact⟨_,rfl,Nat.le_refl _,Blk.new _ _ _⟩
 · have ho:((n:Int)<8)=False:=by simp;omega
   have HR:=hid (show rd i l= .ok {i with last:=low (ofB 0 (l.take 4)),code:=ofB 0 ((l.drop 4).take 4),data:=l.drop 8}by simp[rd,ht,hl,h8]);obtain⟨A1,h0,hj⟩:=cut_head byteP hr (4:Int) (k:=4) rfl (by omega) hc;obtain⟨A2,h3,hk⟩:=cut_mid byteP hr (4:Int) (8:Int) (k:=4) (m:=4) rfl rfl (by omega) hc;obtain⟨A3,hd,hm⟩:=cut_from byteP hr (8:Int) (k:=8) rfl (by omega) hc;have h4:ofB 0 (l.take 4)<9223372036854775808:=by
    have h1:=ofB_lt (l.take 4) 0;have h2:256^(l.take 4).length<=256^4:=Nat.pow_le_pow_right (by omega) (List.length_take_le _ _);omega
   obtain⟨v1,h5⟩:∃v,ofB 0 (l.take 4)=v:=⟨_,rfl⟩;obtain⟨v2,he⟩:∃v,ofB 0 ((l.drop 4).take 4)=v:=⟨_,rfl⟩;rw[h5]at h4;have c13:W.cell? ⟨g,13,none⟩=some (.int .i64 (i.last:Nat)):=hb.cell 13;have c12:W.cell? ⟨g,12,none⟩=some (.int .i64 (i.code:Nat)):=hb.cell 12;have f13:=hb.frozen 13;have f12:=hb.frozen 12;have hf:=hid (λW' (h:Rd W' B A1 4 (l.take 4))=>of_any A1 4 c (l.take 4) W' B h (Nat.le_refl _));have hh:=hid (λW' (h:Rd W' B A2 4 ((l.drop 4).take 4))=>of_any A2 4 (c-4) ((l.drop 4).take 4) W' B h (Nat.le_refl _));rw[h5]at hf HR;rw[he]at hh HR;have hq:=hid (λW'=>low_any v1 W' h4);have c12b:(W.setCell ⟨g,13,none⟩ (.int .i64 (low v1:Nat))).cell? ⟨g,12,none⟩=some (.int .i64 (i.code:Nat)):=(hb.put 13 _).cell 12;have hu:=hid (show Blk ((W.setCell ⟨g,13,none⟩ (.int .i64 (low v1:Nat))).setCell ⟨g,12,none⟩ (.int .i64 (v2:Nat))).drew g 91 (infC {i with last:=low v1,code:=v2} (.slice none 0 0) (.slice none 0 0))from(hb.put 13 (.int .i64 (low v1:Nat))).put 12 (.int .i64 (v2:Nat)));have h6:=hid (show Rd ((W.setCell ⟨g,13,none⟩ (.int .i64 (low v1:Nat))).setCell ⟨g,12,none⟩ (.int .i64 (v2:Nat))).drew B A3 (n-8) (l.drop 8)from(hd.set_far c13 (by simp) (.int .i64 (low v1:Nat))).set_far c12b (by simp) (.int .i64 (v2:Nat)));have hA:=hid (show W.grownBy ((W.setCell ⟨g,13,none⟩ (.int .i64 (low v1:Nat))).setCell ⟨g,12,none⟩ (.int .i64 (v2:Nat))).drew (some g)from grown_drewN (grown_setCell (grown_setCell (World.grownBy.refl W (some g)) 13 (.int .i64 (low v1:Nat))) 12 (.int .i64 (v2:Nat))) 1);have hi:=hid (show((W.setCell ⟨g,13,none⟩ (.int .i64 (low v1:Nat))).setCell ⟨g,12,none⟩ (.int .i64 (v2:Nat))).drew.heap.size=W.heap.size by simp);clear c12b;have hC:=hid h0;have hD:=hid h3;have h7:=hid (λu=>h0.set_far c12 (by simp) u);have h9:=hid (λu=>h3.set_far c13 (by simp) u);clear h4 h0 h3 hd hb hr h5 he;go_enter Tryz.func189,Tryz.ntmps189;go_upto_region 3 with fail;go_region_held3 (λ_=>True) (trivial) (first
    |(go_at_call 113
      with_reducible refine Calls.mono (hf.out _ ?_) ?_
      · first|exact hC.out|exact h7.out _
      rintro e w1 ⟨rfl,hw⟩;subst w1)
    |(go_at_call 113
      with_reducible refine Calls.mono (hh.out _ ?_) ?_
      · first|exact hD.out|exact h9.out _
      rintro e w1 ⟨rfl,hw⟩;subst w1)
    |(go_at_call 114
      refine(hq.out _).mono ?_;rintro e w1 ⟨rfl,hw⟩;subst w1)
    |fail)
   all_goals
    go_wp2_with fail;refine(rest_any g {i with last:=low v1,code:=v2} _ _ A3 (n-8) (c-8) B (l.drop 8) _ hu.out h6.out (by rw[hi.out];exact hB) (by omega)).mono ?_;rintro e w' ⟨rfl,hg,dv,h1,h2⟩;rw[hi.out]at h2;have hE:=hid (grown_trans hA.out hg);have hF:=hid h1;have hG:=hid h2;clear hg h1 h2;go_wp2;go_ret;refine⟨hE.out,?_⟩;rw[HR.out];refine⟨rfl,_,dv,hF.out,?_,?_⟩
    · show SetO _ _ _ i.sets
      rw[hs];exact setO_nil _ _
    · show Ow _ _ _ dv (l.drop 8).length (l.drop 8)
      rw[List.length_drop,hl];exact hG.out
end Go.Proofs.YtkpppjhbmnfmkaaGreatDoor
end

section
set_option maxHeartbeats 8000000
set_option maxRecDepth 100000
namespace Go.Proofs.YtkpppjhbmnfmkaaGreatDoor
open Lib (hid)
open Go.RowKit Go.Own Go.Own.Fr Go.Own.Im
attribute [local go_sem] Oper.semAt_some
theorem elSet:Cm.ElP Tryz.prog setC 89 87 2 16:=by
 refine⟨Tryz.underlying89,?_,λ_=>rfl,?_,by omega,by omega⟩
 · have h:(Tryz.prog.info? 87).map (λi=>(i.zero,i.size,i.bytes))=some (some (.agg #[.int .i64 0,.int .i64 0]),2,16):=by kernel_rfl
   obtain⟨i,hi,hz,h1,h2⟩:=info_parts h;exact⟨i,_,hi,hz,h1,h2,rfl⟩
 · intro x u hu
   simp only[setC,List.mem_cons,List.not_mem_nil,or_false]at hu;rcases hu with rfl|rfl<;>rfl
structure SetJ (W:World) (g B:Nat) (i:Inf) (l:List UInt8) (t:Value) (wr:World) (A:Option Addr) (m c:Nat) (r:List UInt8) (done:List (Nat×Nat)) (sv:Value):Prop where
 val:t= .slice A m c
 le:m<=c
 rd_:Rd wr B A m r
 six:m % 6=0
 few:m<=l.length
 grown:W.grownBy wr (some g)
 blk:Blk wr g 91 (infC {i with sets:=done} sv (.slice none 0 0))
 own:SetO wr W.heap.size sv done
 num:6*done.length+m<=l.length
 res:rd i l=match setsOf r with| .ok x=>.ok {i with sets:=done++x}| .error x=>.error x
theorem set_six {r:List UInt8} {m:Nat} (h:r.length=m) (h6:m % 6=0) (h0:0<m):∃a b c d e f q,r=a::b::c::d::e::f::q:=by
 rcases r with _|⟨a,_|⟨b,_|⟨c,_|⟨d,_|⟨e,_|⟨f,q⟩⟩⟩⟩⟩⟩<;>simp at h<;>first|omega|exact⟨_,_,_,_,_,_,_,rfl⟩
theorem SetJ.next {W wr wc w8:World} {g B m c c8:Nat} {i:Inf} {l q:List UInt8} {t sv:Value} {A A4 A8:Option Addr} {b0 b1 b2 b3 b4 b5:UInt8} {done:List (Nat×Nat)} {a v:Nat} {o:Obj}
 (h:SetJ W g B i l t wr A m c (b0::b1::b2::b3::b4::b5::q) done sv) (hB:B<=W.heap.size) (hg:g<W.heap.size) (h6:6<=m)
 (hG:W.grownBy wc (some g)) (hR:Rd wc B A4 (m-6) q) (hO:SetO wc W.heap.size sv done) (hP:Blk w8 g 91 (infC {i with sets:=done} sv (.slice none 0 0)))
 (h8:(wc.drew.alloc o).grownBy w8 sv.ownBlock) (h1:SetO w8 W.heap.size (.slice A8 (done.length+1) c8) (done++[(a,v)]))
 (hs:setsOf (b0::b1::b2::b3::b4::b5::q)=match badSet (a,v)with
   |some k=>.error (k,0)
   |none=>match setsOf q with
    | .ok l=>.ok ((a,v)::l)
    | .error x=>.error x) (hb:badSet (a,v)=none):
 SetJ W g B i l (.slice A4 (m-6) (c-6)) (w8.setCell ⟨g,16,none⟩ (.slice A8 (done.length+1) c8)) A4 (m-6) (c-6) q (done++[(a,v)]) (.slice A8 (done.length+1) c8):=by
 have hsz:=hG.size;have h0:∀j,sv.ownBlock=some j->W.heap.size<=j:=λj e=>(hO.lt j e).1;have h2:W.grownBy (wc.drew.alloc o) (some g):=⟨hG.os,hG.tape,hG.output,by have:=hG.size;simp;omega,λk hk hn=>(Below.heap_alloc wc.drew o k (by show k<wc.heap.size;omega)).trans (hG.block k hk hn)⟩;have h3:W.grownBy w8 (some g):=h2.andThen h8 λj hj=>.inl (h0 j hj);have h4:∀y,sv≠ .int .u8 y:=by
  obtain⟨A',c',e,_⟩:=hO.form;intro y e';rw[e]at e';cases e'
 have h5:Rd (wc.drew.alloc o) B A4 (m-6) q:=Rd.alloc (w:=wc.drew) hR (by show B<=wc.heap.size;omega) o;have h7:Rd w8 B A4 (m-6) q:=h5.grown h8 (by simp;omega) (λj e=>by have:=h0 j e;omega);refine⟨rfl,by have:=h.le;omega,h7.set_far (x:=sv) (hP.cell 16) h4 _,by have:=h.six;omega,by have:=h.few;omega,grown_setCell h3 16 _,hP.put 16 _,?_,?_,?_⟩
 · exact h1.grown (grown_setCell (World.grownBy.refl w8 (some g)) 16 _) (.inr λe=>by have:=(h1.lt g e).1;omega)
 · have:=h.num
   simp;omega
 · rw[h.res,hs,hb]
   cases setsOf q<;>simp
theorem rdSets (g:Nat) (i:Inf) (A:Option Addr) (n c B:Nat) (l:List UInt8) (W:World) (hb:Blk W g 91 (infC i (.slice none 0 0) (.slice none 0 0))) (hr:Rd W B A n l) (hB:B<=W.heap.size) (hc:n<=c) (hn:n<=1000000) (ht:i.typ=4) (hs:i.sets=[]/\i.data=[]):
 Calls Tryz.prog 185 #[.pointer (some ⟨g,0,none⟩),.slice A n c] W (RdPost W g i l):=by
 have hl:=hr.1;have hH:=hid hb.lt;have c5:W.cell? ⟨g,5,none⟩=some (.bool i.ack):=hb.cell 5;have hq:∃q,n % 6=q:=⟨_,rfl⟩;obtain⟨q,hq⟩:=hq;have hI:((n:Int).tmod 6)=(q:Int):=by rw[<-hq];rfl
 have h8:((n:Int) % 6)=(q:Int):=by rw[<-hq];rfl
 by_cases h4:(i.ack=true/\0<n)\/n % 6≠0
 · have HR:=hid (show rd i l= .error (6,0)by simp only[rd,ht,hl];rw[if_pos h4])
   clear hb hr;have fin:∀(e:Ending) (w':World),(e= .returned (.iface 196 (.pointer (some ⟨W.heap.size,0,none⟩)))/\w'=W.alloc (.cells #[.int .i64 6,.int .i64 0] 199))->RdPost W g i l e w':=by
    rintro e w' ⟨rfl,rfl⟩;refine⟨(World.grownBy_alloc W _ _),?_⟩;rw[HR.out];exact⟨_,rfl,Nat.le_refl _,Blk.new _ _ _⟩
   have HF:=hid fin;clear fin;by_cases h1:i.ack=true/\0<n
   · obtain⟨h1,h2⟩:=h1
     rw[h1]at c5;clear h4 hI h8 hq;go_enter Tryz.func185,Tryz.ntmps185;go_wp2_with fail;refine(fault_any 6 0 _).mono ?_;rintro e w1 ⟨rfl,hw⟩;subst w1;go_wp2;go_ret;exact HF.out _ _ ⟨rfl,rfl⟩
   · have hJ:¬q=0:=λe=>by rcases h4 with hK|hK;exact h1 hK;omega
     have h5:i.ack=false:=by
      cases h:i.ack
      · rfl
      · exact absurd ⟨h,by rcases Nat.eq_zero_or_pos n with h2|h2<;>omega⟩ h1
     rw[h5]at c5;clear h4 hq h1;go_enter Tryz.func185,Tryz.ntmps185;go_wp2_with fail;refine(fault_any 6 0 _).mono ?_;rintro e w1 ⟨rfl,hw⟩;subst w1;go_wp2;go_ret;exact HF.out _ _ ⟨rfl,rfl⟩
 · have hJ:q=0:=by omega
   subst hJ;have HR:=hid (show rd i l=match setsOf l with| .ok x=>.ok {i with sets:=[]++x}| .error x=>.error x by simp only[rd,ht,hl];rw[if_neg h4];cases setsOf l<;>simp);have hL:i.ack=true->¬0<n:=λh h2=>h4 (.inl ⟨h,h2⟩);have hG:i.data=[]:=hs.2;have hN:({i with sets:=[]}:Inf)=i:=by rw[<-hs.1]
   have HJ:=hid (show SetJ W g B i l (.slice A n c) W A n c l [] (.slice none 0 0)from⟨rfl,hc,hr,hq,by omega,World.grownBy.refl W _,by rw[hN];exact hb,setO_nil _ _,by simp;omega,HR.out⟩);have hV:=hid (show l.length<=1000000 by omega);clear h4 hs hr hb hN hl HR;cases h5:i.ack;all_goals
    rw[h5]at c5
    (try(have hW:n=0:=by have:=hL h5;omega))
    clear hL
    (try subst hW)
    go_enter Tryz.func185,Tryz.ntmps185;go_wp2;clear hI h8 hq c5 h5;go_loopw [1] (λt wr=>Hid (∃A m c r done sv,SetJ W g B i l t wr A m c r done sv)) (λt _=>match t with| .slice _ m _=>m|_=>0)
    case atStart=>exact hid ⟨_,_,_,_,_,_,HJ.out⟩
    case round=>
     obtain⟨A1,m,c1,r,done,sv,hj⟩:=hrel.out;clear hrel;obtain rfl:=hj.val;rcases Nat.eq_zero_or_pos m with h0|h0
     · subst h0
       go_wp2;go_ret;have hX:r=[]:=List.eq_nil_of_length_eq_zero hj.rd_.1;have h9:=hj.res;rw[hX]at h9;refine⟨hj.grown,?_⟩;rw[h9];refine⟨rfl,sv,.slice none 0 0,?_,?_,?_⟩
       · simpa using hj.blk
       · simpa using hj.own
       · show Ow _ _ _ _ i.data.length i.data
         rw[hG];exact ow_nil _ _ _
     · obtain⟨b0,b1,b2,b3,b4,b5,q,rfl⟩:=set_six hj.rd_.1 hj.six h0
       have hm:6<=m:=by have:=hj.six;omega
       obtain⟨A2,hO,hh⟩:=cut_head byteP hj.rd_ (2:Int) (k:=2) rfl (by omega) hj.le;obtain⟨A3,hP,hi⟩:=cut_mid byteP hj.rd_ (2:Int) (6:Int) (k:=2) (m:=4) rfl rfl (by omega) hj.le;obtain⟨A4,hQ,hU⟩:=cut_from byteP hj.rd_ (6:Int) (k:=6) rfl hm hj.le;obtain⟨a,ha⟩:∃a,ofB 0 [b0,b1]=a:=⟨_,rfl⟩;obtain⟨v,hv⟩:∃v,ofB 0 [b2,b3,b4,b5]=v:=⟨_,rfl⟩;have h6:=hid (λW' (h:Rd W' B A2 2 [b0,b1])=>of_any A2 2 c1 [b0,b1] W' B h (by omega));have hD:=hid (λW' (h:Rd W' B A3 4 [b2,b3,b4,b5])=>of_any A3 4 (c1-2) [b2,b3,b4,b5] W' B h (by omega));have hE:=hid (show Rd wr B A2 2 [b0,b1]from hO);have hF:=hid (show Rd wr B A3 4 [b2,b3,b4,b5]from hP);have hd:=hid (hE.out.alloc (Nat.le_trans hB hj.grown.size) (.cells #[.int .i64 0,.int .i64 0] 87));have he:=hid (hF.out.alloc (Nat.le_trans hB hj.grown.size) (.cells #[.int .i64 0,.int .i64 0] 87));have hR:=hid (show Rd wr B A4 (m-6) q from hQ);rw[ha]at h6;rw[hv]at hD;have HS:=hid (show setsOf (b0::b1::b2::b3::b4::b5::q)=match badSet (a,v)with
        |some k=>.error (k,0)
        |none=>match setsOf q with
         | .ok l=>.ok ((a,v)::l)
         | .error x=>.error x by rw[setsOf,ha,hv];cases badSet (a,v)<;>rfl)
       have HJ:=hid hj;have c16:wr.cell? ⟨g,16,none⟩=some sv:=hj.blk.cell 16;have f16:=hj.blk.frozen 16;have hM:=hid hm;have H9:¬((m:Int)<=0):=by omega
       clear ha hv hO hP hQ hj hm;go_upto_region 5 with fail;go_cut [5]from 27 to 33 (λt5 wx=>t5= .pointer (some ⟨wr.heap.size,0,none⟩)/\wx=(wr.alloc (.cells #[.int .i64 (a:Nat),.int .i64 (v:Nat)] 87)).drew)
       case first=>
        as_aux_lemma=>
         go_region_held3 (λ_=>True) (trivial) (first
          |(go_at_call 113
            with_reducible refine Calls.mono (h6.out _ ?_) ?_
            · first|exact hE.out|exact hd.out
            rintro e w1 ⟨rfl,hw⟩;subst w1)
          |(go_at_call 113
            with_reducible refine Calls.mono (hD.out _ ?_) ?_
            · first|exact hF.out|exact he.out
            rintro e w1 ⟨rfl,hw⟩;subst w1)
          |fail)
         all_goals
          go_wp2_with fail;go_meet;exact⟨rfl,rfl⟩
       case rest=>
        obtain⟨rfl,hS⟩:=hcut;have HN:=hid (show Blk (wr.alloc (.cells #[.int .i64 (a:Nat),.int .i64 (v:Nat)] 87)).drew wr.heap.size 87 #[.int .i64 (a:Nat),.int .i64 (v:Nat)]from Blk.new wr _ _);have h7:=hid (show Blk (wr.alloc (.cells #[.int .i64 (a:Nat),.int .i64 (v:Nat)] 87)).drew g 91 (infC {i with sets:=done} sv (.slice none 0 0))from HJ.out.blk.alloc _);have HG:=hid (show W.grownBy (wr.alloc (.cells #[.int .i64 (a:Nat),.int .i64 (v:Nat)] 87)).drew (some g)from grown_drewN (grown_alloc HJ.out.grown (.cells #[.int .i64 (a:Nat),.int .i64 (v:Nat)] 87)) 1);have hA:=hid (show SetO (wr.alloc (.cells #[.int .i64 (a:Nat),.int .i64 (v:Nat)] 87)).drew W.heap.size sv done from HJ.out.own.grown (grown_drewN (World.grownBy_alloc wr (.cells #[.int .i64 (a:Nat),.int .i64 (v:Nat)] 87) none) 1) (Cm.own_or sv));have hT:=hid (show Rd (wr.alloc (.cells #[.int .i64 (a:Nat),.int .i64 (v:Nat)] 87)).drew B A4 (m-6) q from hR.out.alloc (Nat.le_trans hB HJ.out.grown.size) _);have hY:=hid (show(wr.alloc (.cells #[.int .i64 (a:Nat),.int .i64 (v:Nat)] 87)).drew.heap.size=wr.heap.size+1 by simp);generalize hZ:wr.heap.size=gs at*
        have e5:(wr.alloc (.cells #[.int .i64 (a:Nat),.int .i64 (v:Nat)] 87)).drew=wc:=hS.symm;rw[e5]at HN h7 HG hA hT hY;clear hS e5 c16 f16 hZ hE hF hd he hR h6 hD hh hi;have ho:(a=2/\1<v)\/(a=5/\v<16384)\/(a=5/\16777216<=v)\/(a=4/\2147483647<v)\/(a=2/\v<=1)\/(a=5/\(16384<=v/\v<16777216))\/(a=4/\v<=2147483647)\/(a≠2/\a≠5/\a≠4):=by omega
        go_upto_block 2 with fail;go_cut []from 34 to 66 (λwx=>Hid (badSet (a,v)=none)/\wx=wc)
        case first=>
         rcases ho with⟨rfl,h1⟩|⟨rfl,h1⟩|⟨rfl,h1⟩|⟨rfl,h1⟩|⟨rfl,h1⟩|⟨rfl,h1⟩|⟨rfl,h1⟩|⟨n2,n5,n4⟩
         · have h3:=hid (show badSet (2,v)=some 1 by simp[badSet];omega)
           have s0:wc.cell? ⟨gs,0,none⟩=some (.int .i64 2):=HN.out.cell 0;have s1:wc.cell? ⟨gs,1,none⟩=some (.int .i64 (v:Nat)):=HN.out.cell 1;have hx:(1:Int)<(v:Int):=by omega
           clear h1;go_wp2_with fail;refine(fault_any 1 0 _).mono ?_;rintro e w1 ⟨rfl,hw⟩;subst w1;go_wp2;go_ret;refine⟨grown_alloc HG.out _,?_⟩;rw[HJ.out.res,HS.out,h3.out];exact⟨_,rfl,HG.out.size,Blk.new _ _ _⟩
         · have h3:=hid (show badSet (5,v)=some 1 by simp[badSet];omega)
           have s0:wc.cell? ⟨gs,0,none⟩=some (.int .i64 5):=HN.out.cell 0;have s1:wc.cell? ⟨gs,1,none⟩=some (.int .i64 (v:Nat)):=HN.out.cell 1;have hx:(v:Int)<16384:=by omega
           clear h1;go_wp2_with fail;refine(fault_any 1 0 _).mono ?_;rintro e w1 ⟨rfl,hw⟩;subst w1;go_wp2;go_ret;refine⟨grown_alloc HG.out _,?_⟩;rw[HJ.out.res,HS.out,h3.out];exact⟨_,rfl,HG.out.size,Blk.new _ _ _⟩
         · have h3:=hid (show badSet (5,v)=some 1 by simp[badSet];omega)
           have s0:wc.cell? ⟨gs,0,none⟩=some (.int .i64 5):=HN.out.cell 0;have s1:wc.cell? ⟨gs,1,none⟩=some (.int .i64 (v:Nat)):=HN.out.cell 1;have hx:¬(v:Int)<16384:=by omega
           have hy:(16777216:Int)<=(v:Int):=by omega
           clear h1;go_wp2_with fail;refine(fault_any 1 0 _).mono ?_;rintro e w1 ⟨rfl,hw⟩;subst w1;go_wp2;go_ret;refine⟨grown_alloc HG.out _,?_⟩;rw[HJ.out.res,HS.out,h3.out];exact⟨_,rfl,HG.out.size,Blk.new _ _ _⟩
         · have h3:=hid (show badSet (4,v)=some 3 by simp[badSet];omega)
           have s0:wc.cell? ⟨gs,0,none⟩=some (.int .i64 4):=HN.out.cell 0;have s1:wc.cell? ⟨gs,1,none⟩=some (.int .i64 (v:Nat)):=HN.out.cell 1;have hx:(2147483647:Int)<(v:Int):=by omega
           clear h1;go_wp2_with fail;refine(fault_any 3 0 _).mono ?_;rintro e w1 ⟨rfl,hw⟩;subst w1;go_wp2;go_ret;refine⟨grown_alloc HG.out _,?_⟩;rw[HJ.out.res,HS.out,h3.out];exact⟨_,rfl,HG.out.size,Blk.new _ _ _⟩
         · have h3:=hid (show badSet (2,v)=none by simp[badSet];omega)
           have s0:wc.cell? ⟨gs,0,none⟩=some (.int .i64 2):=HN.out.cell 0;have s1:wc.cell? ⟨gs,1,none⟩=some (.int .i64 (v:Nat)):=HN.out.cell 1;have hx:¬(1:Int)<(v:Int):=by omega
           clear h1;go_wp2;go_meet;exact⟨h3,rfl⟩
         · have h3:=hid (show badSet (5,v)=none by simp[badSet];omega)
           have s0:wc.cell? ⟨gs,0,none⟩=some (.int .i64 5):=HN.out.cell 0;have s1:wc.cell? ⟨gs,1,none⟩=some (.int .i64 (v:Nat)):=HN.out.cell 1;have hx:¬(v:Int)<16384:=by omega
           have hy:¬(16777216:Int)<=(v:Int):=by omega
           clear h1;go_wp2;go_meet;exact⟨h3,rfl⟩
         · have h3:=hid (show badSet (4,v)=none by simp[badSet];omega)
           have s0:wc.cell? ⟨gs,0,none⟩=some (.int .i64 4):=HN.out.cell 0;have s1:wc.cell? ⟨gs,1,none⟩=some (.int .i64 (v:Nat)):=HN.out.cell 1;have hx:¬(2147483647:Int)<(v:Int):=by omega
           clear h1;go_wp2;go_meet;exact⟨h3,rfl⟩
         · have h3:=hid (show badSet (a,v)=none by simp[badSet,n2,n5,n4])
           have s0:wc.cell? ⟨gs,0,none⟩=some (.int .i64 (a:Nat)):=HN.out.cell 0;have s1:wc.cell? ⟨gs,1,none⟩=some (.int .i64 (v:Nat)):=HN.out.cell 1;have m2:¬(a:Int)=2:=by omega
           have m5:¬(a:Int)=5:=by omega
           have m4:¬(a:Int)=4:=by omega
           clear n2 n5 n4;go_wp2;go_meet;exact⟨h3,rfl⟩
        case rest=>
         obtain⟨h3,rfl⟩:=hcut;have s0:wc.cell? ⟨gs,0,none⟩=some (.int .i64 (a:Nat)):=HN.out.cell 0;have c16:wc.cell? ⟨g,16,none⟩=some sv:=h7.out.cell 16;have f16:=h7.out.frozen 16;have s1:wc.cell? ⟨gs,1,none⟩=some (.int .i64 (v:Nat)):=HN.out.cell 1;have h6:Hid (SetO (wc.drew.alloc (.cells #[.int .i64 (a:Nat),.int .i64 (v:Nat)] 87)) W.heap.size sv done):=hid (hA.out.grown (show wc.grownBy _ none from⟨rfl,rfl,rfl,by simp,λk hk _=>Below.heap_alloc wc.drew _ k hk⟩) (Cm.own_or sv));have H0:Hid (Cm.RS setC 2 (wc.drew.alloc (.cells #[.int .i64 (a:Nat),.int .i64 (v:Nat)] 87)) (wc.drew.alloc (.cells #[.int .i64 (a:Nat),.int .i64 (v:Nat)] 87)).heap.size (some ⟨wc.heap.size,0,none⟩) 1 [(a,v)]):=hid
          ((Cm.Ew.lit (k:=2) setC 87 (λ_=>rfl) wc.drew [(a,v)] (by simp)).rs (λ_=>rfl) (by omega))
         have lg:=h7.out.lt;have lgs:=HN.out.lt;have H1:=hid (show done.length+1<=1000000 by have:=HJ.out.num;have:=hV.out;have:=hM.out;omega);have hu:=hid (show W.heap.size<=(wc.drew.alloc (.cells #[.int .i64 (a:Nat),.int .i64 (v:Nat)] 87)).heap.size by have:=HG.out.size;simp;omega);go_upto_region 11 with fail;go_region_law
          ((refine Cm.step_app_e elSet _ (by rfl) (.tmp 71) (.tmp 73) (by rfl) W.heap.size sv done (by rfl) h6.out _ (some ⟨wc.heap.size,0,none⟩) 1 1 [(a,v)] (by rfl) H0.out H1.out hu.out ?_
            intro A8 c8 w8 hf hg hv;have H2:=hid hg;have H3:=hid hf;have hC:=(h7.out.alloc (.cells #[.int .i64 (a:Nat),.int .i64 (v:Nat)] 87)).grown (w:=wc.alloc _) (w':=w8) ⟨hg.os,hg.tape,hg.output,hg.size,hg.block⟩ (λe=>by have:=(hA.out.lt g e.symm).1;have:=hH.out;omega);have H4:w8.frozen? ⟨g,16,none⟩=false:=hC.frozen 16;have H5:w8.cell? ⟨g,16,none⟩=some sv:=hC.cell 16;have H7:=hid hC;clear hC hf hg hv))
         all_goals
          have H8:=hid (HJ.out.next hB hH.out hM.out HG.out hT.out hA.out H7.out H2.out H3.out HS.out h3.out);clear H4 H5;go_wp2;exact⟨hid ⟨_,_,_,_,_,_,H8.out⟩,by have:=hM.out;show m-6<m;omega⟩
end Go.Proofs.YtkpppjhbmnfmkaaGreatDoor
end
