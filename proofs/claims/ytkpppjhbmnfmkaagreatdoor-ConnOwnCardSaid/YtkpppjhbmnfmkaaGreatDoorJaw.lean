/-
  
  
  
  
  
  
  
  
-/
import Derived.Test.YtkpppjhbmnfmkaaGreatDoorJav
import Derived.Test.YtkpppjhbmnfmkaaGreatDoorJab
import Derived.Deep.RegionHeld3
import Derived.Deep.RegionWith
import Derived.BigRegion
set_option linter.unusedSimpArgs false
set_option linter.unusedVariables false
section
set_option maxHeartbeats 4000000
set_option maxRecDepth 100000
namespace Go.Proofs.YtkpppjhbmnfmkaaGreatDoor
open Lib (hid)
open Go.RowKit Go.Own Go.Own.Fr
attribute [local go_sem] Oper.semAt_some
theorem run_sub8 {P:Program} {t e:TypeId} (hP:ByteP P t e) (A:Option Addr) (n c k u:Nat) (hk:k+u<=n) (hc:n<=c) (W:World):
 (Instr.slice t (.slice A n c) (some (.int .i64 (k:Int))) (some (.int .i64 ((k:Int)+(u:Int)))) none).run P W= .ok (.slice (if c=k then A else A.map λx=>x.add k) u (c-k)) W:=by
 obtain⟨i,hi,hz,h1,h2⟩:=hP.info;have e:((k:Int)+(u:Int)).toNat=k+u:=by omega
 have h0:=run_sliceBound (P:=P) (w:=W) .i64 (k:Int) (k+u) .sliceB (by omega) (by omega);simp only[Int.toNat_natCast]at h0;simp[Instr.slice,h0,run_underlying hP.slice,Instr.sliceBounds,run_sliceBound,sizeOf,typeInfo,hi,h1,Result.andThen,e,show(k:Int)+u<=c by omega,show(0:Int)<=(k:Int)+u by omega]
def TextPost (l:List UInt8) (w:World) (e:Ending) (w':World):Prop:=
 Below w.heap.size w w'/\((∃s r,Hk.textP l=some (s,r)/\e= .returned (.tuple #[.string ⟨s.toArray⟩,.int .i64 (l.length-r.length:Nat),.nilIface]))\/(Hk.textP l=none/\∃a,e= .returned (.tuple #[.string ⟨#[]⟩,.int .i64 0,ev a])))
theorem w64_add2 (a b:Nat) (h:a<=1000000) (k:b<=1000000):wrap64 ((a:Int)+(b:Int))=(a:Int)+(b:Int):=by unfold wrap64;omega
theorem w64_sub2 (a b:Nat) (h:a<=1000000) (k:b<=a):wrap64 ((a:Int)-(b:Int))=((a-b:Nat):Int):=by unfold wrap64;omega
theorem intP_len2 {bits:Nat} {l:List UInt8} {i:Nat} {r:List UInt8} (h:Hk.intP bits l=some (i,r)):∃at_,at_+r.length=l.length/\l.drop at_=r/\1<=at_:=by
 have more:∀(k sh n:Nat) (l:List UInt8) (m:Nat) (r:List UInt8),Hk.intMore k sh n l=some (m,r)->∃at_,at_+r.length=l.length/\l.drop at_=r:=by
  intro k
  induction k with
  |zero=>intro sh n l m r h;simp[Hk.intMore]at h
  |succ k ih=>
   intro sh n l m r h;cases l with
   |nil=>simp[Hk.intMore]at h
   |cons b l=>
    rw[Hk.intMore]at h
    split at h
    · split at h
      · injection h with h;injection h with _ h;subst h
        exact⟨1,by simp;omega,rfl⟩
      · cases h
    · obtain⟨a,h1,h2⟩:=ih _ _ _ _ _ h
      exact⟨a+1,by simp;omega,h2⟩
 cases l with
 |nil=>cases h
 |cons b l=>
  rw[Hk.intP]at h
  split at h
  · injection h with h;injection h with _ h;subst h
    exact⟨1,by simp;omega,rfl,Nat.le_refl _⟩
  · obtain⟨a,h1,h2⟩:=more _ _ _ _ _ _ h
    exact⟨a+1,by simp;omega,h2,by omega⟩
theorem hgive_err (a:Addr) (w:World):Calls Tryz.prog 242 #[ev a] w λe w'=>e= .panicked [{v:=.iface 279 (.agg #[ev a]),recovered:=false}]/\w'=w:=by
 unfold ev;go_enter Tryz.func242,Tryz.ntmps242;go_wp2;exact⟨rfl,rfl,rfl⟩
theorem htext_any (A:Option Addr) (n c B:Nat) (l:List UInt8) (w:World) (hr:Rd w B A n l) (hB:B<=w.heap.size) (hc:n<=c) (hn:n<=1000000) (hE:HpE w):
 Calls Tryz.prog 264 #[.slice A n c] w (TextPost l w):=by
 have h7:=hid (hint_any 7 A n c B l w (by omega) hr hc hn hE);obtain⟨el,hq⟩:=hE.long;obtain⟨ee,hu⟩:=hE.end_;obtain⟨eh,hL⟩:=hE.huff;have hM:=hid (λk=>(show(w.drewN k).cell? ⟨5,0,none⟩=some (ev el)from hq));have hN:=hid (λk=>(show(w.drewN k).cell? ⟨10,0,none⟩=some (ev ee)from hu));have hl:=hr.1;have HN:=hid (show n<=1000000/\n<=c/\l.length=n from⟨hn,hc,hl⟩);have HR:=hid hr;have hO:=hid hE.room;have hP:=hid hB;clear hE hq hu hn hc hl hr hB;cases hi:Hk.intP 7 l with
 |none=>
  have ht:Hk.textP l=none:=by rw[Hk.textP,hi]
  have HT:=hid ht;clear ht;go_enter Tryz.func264,Tryz.ntmps264;go_wp2_with (first
   |(go_at_call 256
     refine Calls.mono h7.out ?_;rintro e w1 ⟨⟨k1,hw⟩,hp⟩;rcases hp with⟨i,r,h6,_⟩|⟨_,a,rfl⟩
     · rw[hi]at h6;cases h6
     subst w1;unfold ev)
   |fail)
  go_ret3;exact⟨bdN (Below.refl _ _) _,.inr ⟨HT.out,a,rfl⟩⟩
 |some p=>
  obtain⟨i,r⟩:=p;obtain⟨at_,hf,hb,hh⟩:=intP_len2 hi;have hd:l.length-r.length=at_:=by omega
  have he:Hid (Calls Tryz.prog 256 #[.slice A n c,.int .i64 7] w λe w'=>(∃n,w'=w.drewN n)/\e= .returned (.tuple #[.int .i64 (i:Nat),.int .i64 (at_:Nat),.nilIface])):=hid (h7.out.mono (by
   rintro e w1 ⟨hw,hp⟩;rcases hp with⟨i2,r2,h6,rfl⟩|⟨h0,_⟩
   · rw[hi]at h6
     injection h6 with h6
     injection h6 with h1 h2
     subst h1 h2;exact⟨hw,by rw[hd]⟩
   · rw[hi]at h0;cases h0))
  have hj:r.length<=1000000:=by have:=HN.out.1;have:=HN.out.2.2;omega
  by_cases h3:16384<i
  · have ht:Hk.textP l=none:=by rw[Hk.textP,hi];simp only;rw[if_pos h3]
    have HT:=hid ht;have q0:w.cell? ⟨5,0,none⟩=some (ev el):=hM.out 0;have hQ:(16384:Int)<(i:Int):=Int.ofNat_lt.2 h3;clear ht hi hf hb hh hd h3 hj;go_enter Tryz.func264,Tryz.ntmps264;go_wp2_with (first
     |(go_at_call 256
       refine Calls.mono he.out ?_;rintro e w1 ⟨⟨k1,hw⟩,rfl⟩;subst w1)
     |fail)
    go_quiet (fail);go_wp2_with fail;go_ret3;exact⟨bdN (bdN (Below.refl _ _) _) _,.inr ⟨HT.out,_,rfl⟩⟩
  · have hQ:¬(16384:Int)<(i:Int):=λh=>h3 (Int.ofNat_lt.1 h)
    have hX:wrap64 ((n:Int)-(at_:Int))=((r.length:Nat):Int):=by
     rw[w64_sub2 n at_ HN.out.1 (by have:=HN.out.2.2;omega)]
     congr 1
     have:=HN.out.2.2;omega
    by_cases h4:r.length<i
    · have ht:Hk.textP l=none:=by rw[Hk.textP,hi];simp only;rw[if_neg h3,if_pos h4]
      have HT:=hid ht;have q0:w.cell? ⟨10,0,none⟩=some (ev ee):=hN.out 0;have hR:((r.length:Nat):Int)<(i:Int):=Int.ofNat_lt.2 h4;clear ht hi hf hb hh hd h3 hj h4;generalize r.length=rl at*
      go_enter Tryz.func264,Tryz.ntmps264;go_wp2_with (first
       |(go_at_call 256
         refine Calls.mono he.out ?_;rintro e w1 ⟨⟨k1,hw⟩,rfl⟩;subst w1)
       |fail)
      go_quiet (fail);go_wp2_with fail;go_ret3;exact⟨bdN (bdN (Below.refl _ _) _) _,.inr ⟨HT.out,_,rfl⟩⟩
    · have hR:¬((r.length:Nat):Int)<(i:Int):=λh=>h4 (Int.ofNat_lt.1 h)
      have hk:at_+i<=n:=by have:=HN.out.2.2;omega
      have hS:=run_sub8 (P:=Tryz.prog) byteP A n c at_ i hk HN.out.2.1;have h5:=HR.out.sub (k:=at_) (u:=i) (c:=c) hk HN.out.2.1;rw[hb]at h5;have h8:=w64_add2 at_ i (by have:=HN.out.1;omega) (by omega);obtain⟨A',hC⟩:∃A',(if c=at_ then A else A.map λx=>x.add at_)=A':=⟨_,rfl⟩;rw[hC]at hS h5;have hY:=λk=>run_str (P:=Tryz.prog) (c:=c-at_) 22 9 5 Tryz.underlying22 Tryz.underlying5 Tryz.underlying9 (h5.drewN k);have hm:0<n:=by omega
      obtain⟨ad,hA,hZ,hcell⟩:=HR.out.at_ (k:=0) hm;subst hA;have hcell:w.cell? ad=some (.int .u8 ((l.getD 0 0).toNat:Int)):=hcell;have ho:l.headD 0=l.getD 0 0:=by cases l<;>rfl
      have hD:(r.drop i).length=r.length-i:=List.length_drop;have h9:l.length-(r.drop i).length=at_+i:=by rw[hD];omega
      have HF:=hid h9;have hW:(0:Int)<(n:Int):=Int.ofNat_lt.2 hm;have hF:(l.getD 0 0).toNat<256:=(l.getD 0 0).toNat_lt;have hT:=hid (λk=>hdec_any A' i (c-at_) B (r.take i) (ev eh) (w.drewN k) (h5.drewN k) hP.out (by have:=HN.out.2.1;omega) (by omega) hL (Nat.lt_of_lt_of_le (by decide) hO.out));have hG:∀s,(l.getD 0 0).toNat<128/\s=r.take i\/¬(l.getD 0 0).toNat<128/\Hk.decH (r.take i)=some s->Hk.textP l=some (s,r.drop i):=λs hs=>by
       rw[Hk.textP,hi];simp only;rw[if_neg h3,if_neg h4,ho];rcases hs with⟨h1,rfl⟩|⟨h1,h2⟩
       · rw[if_pos h1]
       · rw[if_neg h1,h2]
      have hH:¬(l.getD 0 0).toNat<128->Hk.decH (r.take i)=none->Hk.textP l=none:=λh1 h2=>by
       rw[Hk.textP,hi];simp only;rw[if_neg h3,if_neg h4,ho,if_neg h1,h2]
      have hI:=hid hG;have hU:=hid hH;clear hG hH ho hD h9 hi hf hb hh hd h3 hj h4 h5 hk hm hC;generalize (l.getD 0 0).toNat=x at*
      generalize r.length=rl at*
      by_cases hx:x<128
      · have hV:¬(128:Int)<=(x:Int):=λh=>absurd (Int.ofNat_le.1 h) (Nat.not_le.2 hx)
        have HT:=hid (hI.out _ (.inl ⟨hx,rfl⟩));clear hx hF;go_enter Tryz.func264,Tryz.ntmps264;go_wp2_with (first
         |(go_at_call 256
           refine Calls.mono he.out ?_;rintro e w1 ⟨⟨k1,hw⟩,rfl⟩;subst w1)
         |fail)
        go_ret3;refine⟨bdN (Below.refl _ _) _,.inl ⟨_,_,HT.out,?_⟩⟩;rw[HF.out,h8]
        rfl
      · have hV:(128:Int)<=(x:Int):=Int.ofNat_le.2 (Nat.not_lt.1 hx)
        have HX:=hid hx;clear hx hF;go_enter Tryz.func264,Tryz.ntmps264;go_wp2_with fail;refine he.out.mono ?_;rintro e w1 ⟨⟨k1,hw⟩,rfl⟩;subst w1;go_wp2_with fail;refine(hT.out _).mono ?_;rintro e w2 ⟨hJ,hp⟩;have hK:=hid hJ;clear hJ;rcases hp with⟨s,hs,rfl⟩|⟨hs,rfl⟩
        · have HT:=hid (hI.out _ (.inr ⟨HX.out,hs⟩))
          clear hs;go_wp2_with fail;go_ret3;refine⟨(bdN (Below.refl w.heap.size w) k1).trans hK.out,.inl ⟨_,_,HT.out,?_⟩⟩;rw[HF.out];simp[h8]
        · have HT:=hid (hU.out HX.out hs)
          clear hs;unfold ev;go_wp2_with fail;go_ret3;exact⟨(bdN (Below.refl w.heap.size w) k1).trans hK.out,.inr ⟨HT.out,_,rfl⟩⟩
end Go.Proofs.YtkpppjhbmnfmkaaGreatDoor
end

section
set_option maxHeartbeats 4000000
set_option maxRecDepth 100000
namespace Go.Proofs.YtkpppjhbmnfmkaaGreatDoor
open Lib (hid)
open Go.RowKit Go.Own Go.Own.Cx
def lineL:List (List UInt8):=Hk.statL.map λp=>if p.2.isEmpty then p.1 else p.1++32::p.2
def StatA (L:List ByteArray):Prop:=L.map (·.data.toList)=lineL
theorem cut_all:lineL.map (λl=>((Lib.cut l [32]).1,(Lib.cut l [32]).2.1))=Hk.statL:=by kernel_rfl
theorem line_len:lineL.all (λl=>Nat.ble l.length 100)=true:=by kernel_rfl
theorem lineL_len:lineL.length=61:=by kernel_rfl
theorem StatA.len {L:List ByteArray} (h:StatA L):L.length=61:=by
 have:=congrArg List.length h
 rwa [List.length_map,lineL_len]at this
theorem StatA.at_ {L:List ByteArray} (h:StatA L) {j:Nat} {hd:Hd.HdrV} (hj:Hk.statH[j]?=some hd):∃s:ByteArray,L[j]?=some s/\s.size<=100/\(⟨(Lib.cut s.data.toList [32]).1.toArray⟩:ByteArray)=hd.name/\(⟨(Lib.cut s.data.toList [32]).2.1.toArray⟩:ByteArray)=hd.value/\hd.never=false/\j<61:=by
 have h4:j<61:=by
  have h1:=(List.getElem?_eq_some_iff.1 hj).1;have h2:Hk.statH.length=61:=by kernel_rfl
  omega
 have h0:j<L.length:=by rw[h.len];exact h4
 refine⟨L[j],List.getElem?_eq_getElem h0,?_,?_⟩
 · have h1:lineL[j]?=some (L[j].data.toList):=by rw[<-show L.map (·.data.toList)=lineL from h,List.getElem?_map,List.getElem?_eq_getElem h0];rfl
   have h2:=List.all_eq_true.1 line_len _ (List.mem_of_getElem? h1);have h3:=Nat.le_of_ble_eq_true h2
   simpa using h3
 · have h1:lineL[j]?=some (L[j].data.toList):=by rw[<-show L.map (·.data.toList)=lineL from h,List.getElem?_map,List.getElem?_eq_getElem h0];rfl
   have h2:Hk.statL[j]?=some ((Lib.cut (L[j].data.toList) [32]).1,(Lib.cut (L[j].data.toList) [32]).2.1):=by
    rw[<-cut_all,List.getElem?_map,h1];rfl
   rw[Hk.statH,List.getElem?_map,h2]at hj;simp only[Option.map_some,Option.some.injEq]at hj;subst hj;exact⟨rfl,rfl,rfl,h4⟩
theorem statA_of {s:ByteArray} (h1:lns s.data.toList=lineL):StatA (Lib.splitB ⟨#[10]⟩ 0 (Lib.countB s ⟨#[10]⟩) s)/\Lib.countB s ⟨#[10]⟩+1=61:=by
 obtain⟨e1,e2⟩:=lns_split s.data.toList.length s.data.toList (Nat.le_refl _);have e3:(Lib.splitB ⟨#[10]⟩ 0 (Lib.countB s ⟨#[10]⟩) s).map (·.data.toList)=lns s.data.toList:=(Lib.splitB_data _ _ _ _).trans e1;refine⟨e3.trans h1,?_⟩;rw[h1,lineL_len]at e2;exact e2
theorem standsA_any (w:World) (m:Int) (hm:w.cell? ⟨13,0,none⟩=some (.int .i64 m)):
 Calls Tryz.prog 233 #[] w λe w'=>∃L,StatA L/\e= .returned (.slice (some ⟨w.heap.size,0,none⟩) 61 61)/\w'=w.alloc (.cells (L.map Value.string).toArray 9):=by
 have HS:=hid (λ(s:ByteArray) (hs:s.size<4294967281) (h1:lns s.data.toList=lineL)=>
  (show Calls Tryz.prog 255 #[.string s,.string ⟨#[10]⟩] w λe w'=>∃L,StatA L/\e= .returned (.slice (some ⟨w.heap.size,0,none⟩) 61 61)/\w'=w.alloc (.cells (L.map Value.string).toArray 9)from by
    obtain⟨k1,k2⟩:=statA_of h1;refine(Tryz.strings_Split s ⟨#[10]⟩ m w hs hm (by decide)).mono ?_;intro e w' h;exact⟨_,k1,by rw[h.1,k2],h.2⟩))
 go_enter Tryz.func233,Tryz.ntmps233;go_wp2_with (first
  |(go_at_call 255
    refine Calls.mono (HS.out _ (of_decide_eq_true (by kernel_rfl)) (by kernel_rfl)) ?_;rintro e w1 ⟨L,hL,rfl,hw⟩;subst w1)
  |fail)
 go_ret;exact⟨L,hL,rfl,rfl⟩
theorem staticA_any (i j:Nat) (hij:i=j+1) (h:Hd.HdrV) (hi:Hk.statH[j]?=some h) (w:World) (m:Int) (hm:w.cell? ⟨13,0,none⟩=some (.int .i64 m)):
 Calls Tryz.prog 212 #[.int .i64 (i:Nat)] w λe w'=>e= .returned (.tuple #[.agg (hdrC h),.bool true])/\Below w.heap.size w w':=by
 have h3:=hid ((Below.refl w.heap.size w).alloc (Nat.le_refl _) (.cells #[.string ⟨#[]⟩,.string ⟨#[]⟩,.bool false] 63));have HX:=hid (Blk.new w 63 #[.string ⟨#[]⟩,.string ⟨#[]⟩,.bool false]);have hg:13<w.heap.size:=World.block_lt_of_cell? w _ hm;have HM:=hid (λ(W:World) (hb:Below w.heap.size w W)=>(show W.cell? ⟨13,0,none⟩=some (.int .i64 m)from(World.cell?_of_block (hb.block _ hg)).trans hm));have HI:=hid hi;have h5:j<61:=by
  have h1:=(List.getElem?_eq_some_iff.1 hi).1;have h2:Hk.statH.length=61:=by kernel_rfl
  omega
 have k1:¬(i:Int)<1:=by omega
 have k2:¬(61:Int)<(i:Int):=by omega
 have h6:i-1=j:=by omega
 have he:=hid h6;clear hm hg hi hij h5 h6;go_enter Tryz.func212,Tryz.ntmps212;go_upto_region 3 with fail;generalize w.alloc (.cells #[.string ⟨#[]⟩,.string ⟨#[]⟩,.bool false] 63)=W0 at*
 have hf:=HM.out W0 h3.out;go_wp2_with (first
  |(go_at_call 233
    refine Calls.mono (standsA_any W0 m hf) ?_;rintro e w1 ⟨L,hL,rfl,hw⟩;obtain⟨s,h7,h8,hs3,h9,hc,hh⟩:=hL.at_ HI.out;have h4:=hid (h3.out.alloc h3.out.size (.cells (L.map Value.string).toArray 9));have qj:w1.cell? ⟨W0.heap.size,i-1,none⟩=some (.string s):=by
     rw[hw,he.out];exact((Blk.new W0 9 (L.map Value.string).toArray).cell j).trans (by simp[h7])
    have hd:=hid (And.intro h8 (And.intro hs3 (And.intro h9 hc)));rw[<-hw]at h4;have h0:Blk w1 w.heap.size 63 #[.string ⟨#[]⟩,.string ⟨#[]⟩,.bool false]:=hw▸HX.out.alloc _;have hj:=HM.out w1 h4.out;clear hL hw h7 h8 hs3 h9 hc hh)
  |(go_at_call 232
    refine Calls.mono (Tryz.strings_Cut _ _ m _ (by have:=hd.out.1;omega) hj) ?_;rintro e w2 ⟨rfl,n,hw⟩;subst w2;have hk:=h0.drewN n;have x0:=h0.cell 0;have x1:=h0.cell 1;have x2:=h0.cell 2;have xf:=h0.frozen 0;have xf1:=h0.frozen 1;have xf2:=h0.frozen 2;simp only[List.getElem?_toArray,List.getElem?_cons_zero,List.getElem?_cons_succ]at x0 x1 x2)
  |fail)
 refine bodyPost_ret (results_static _ _ w.heap.size _ _ _ _ rfl rfl (Blk3 hk rfl _ _ _)) rfl ⟨?_,below3 (bdN h4.out n) (Nat.le_refl _) _ _ _⟩;obtain⟨hn,hv,hne⟩:=h;have e1:=hd.out;simp only at e1;obtain⟨_,e2,e3,e4⟩:=e1;subst e2 e3 e4
 rfl
theorem static0_any (w:World):Calls Tryz.prog 212 #[.int .i64 0] w λe w'=>e= .returned (.tuple #[.agg #[.string ⟨#[]⟩,.string ⟨#[]⟩,.bool false],.bool false])/\Below w.heap.size w w':=by
 have h0:=hid ((Below.refl w.heap.size w).alloc (Nat.le_refl _) (.cells #[.string ⟨#[]⟩,.string ⟨#[]⟩,.bool false] 63));have HX:=hid (Blk.new w 63 #[.string ⟨#[]⟩,.string ⟨#[]⟩,.bool false]);go_enter Tryz.func212,Tryz.ntmps212;go_upto_region 2 with fail;generalize w.alloc (.cells #[.string ⟨#[]⟩,.string ⟨#[]⟩,.bool false] 63)=W0 at*
 have x0:=HX.out.cell 0;have x1:=HX.out.cell 1;have x2:=HX.out.cell 2;have xf:=HX.out.frozen 0;have xf1:=HX.out.frozen 1;have xf2:=HX.out.frozen 2;have xl:=HX.out.lt;simp only[List.getElem?_toArray,List.getElem?_cons_zero,List.getElem?_cons_succ]at x0 x1 x2;go_wp2_with fail;refine bodyPost_ret (results_static _ _ w.heap.size _ _ _ _ rfl rfl (Blk3 HX.out rfl _ _ _)) rfl ⟨rfl,below3 h0.out (Nat.le_refl _) _ _ _⟩
end Go.Proofs.YtkpppjhbmnfmkaaGreatDoor
end

section
set_option maxHeartbeats 8000000
set_option maxRecDepth 100000
namespace Go.Proofs.YtkpppjhbmnfmkaaGreatDoor
open Lib (hid)
open Go.RowKit Go.Own Go.Own.Cx
attribute [local go_sem] Oper.semAt_some
theorem hsize_le {h:Hd.HdrV} {E:List Hd.HdrV} {m:Nat} (hh:h∈E) (hm:hszs E<=m):h.name.size+h.value.size+32<=m:=by
 induction E with
 |nil=>cases hh
 |cons x E ih=>
  rw[hszs_cons']at hm;rcases List.mem_cons.1 hh with rfl|hh
  · unfold hsz at hm;omega
  · exact ih hh (by omega)
theorem RingC.drop {cs:Array Value} {old:Nat} {h:Hd.HdrV} {E:List Hd.HdrV} (hr:RingC cs old (h::E)):RingC (((cs.setIfInBounds (old*3) (.string ⟨#[]⟩)).setIfInBounds (old*3+1) (.string ⟨#[]⟩)).setIfInBounds (old*3+2) (.bool false)) ((old+1) % 128) E:=by
 have h4:=hr.lt;have h3:=hr.le;rw[List.length_cons]at h3;have key:∀j,j<128->j≠old->∀t,t<3->(((cs.setIfInBounds (old*3) (.string ⟨#[]⟩)).setIfInBounds (old*3+1) (.string ⟨#[]⟩)).setIfInBounds (old*3+2) (.bool false))[j*3+t]?=cs[j*3+t]?:=λj hj hne t ht=>by
  rw[Array.getElem?_setIfInBounds_ne (by omega),Array.getElem?_setIfInBounds_ne (by omega),Array.getElem?_setIfInBounds_ne (by omega)]
 refine⟨by simp[hr.size],Nat.mod_lt _ (by omega),by omega,λk x hk=>?_,λj hj=>?_⟩
 · have h5:=(List.getElem?_eq_some_iff.1 hk).1
   have e:((old+1) % 128+k) % 128=(old+(k+1)) % 128:=by omega
   have hne:(old+(k+1)) % 128≠old:=by omega
   have h1:=hr.at_ (k+1) x (by rw[List.getElem?_cons_succ];exact hk);rw[e];have k0:=key _ (Nat.mod_lt (old+(k+1)) (by omega)) hne 0 (by omega);have k1:=key _ (Nat.mod_lt (old+(k+1)) (by omega)) hne 1 (by omega);have k2:=key _ (Nat.mod_lt (old+(k+1)) (by omega)) hne 2 (by omega);rw[Nat.add_zero]at k0;exact⟨k0.trans h1.1,k1.trans h1.2.1,k2.trans h1.2.2⟩
 · by_cases hne:j=old
   · subst hne
     have hs:=hr.size;refine⟨⟨⟨#[]⟩,⟨#[]⟩,false⟩,?_,?_,?_⟩
     · rw[Array.getElem?_setIfInBounds_ne (by omega),Array.getElem?_setIfInBounds_ne (by omega),Array.getElem?_setIfInBounds_self_of_lt (by omega)]
     · rw[Array.getElem?_setIfInBounds_ne (by omega),Array.getElem?_setIfInBounds_self_of_lt (by simp;omega)]
     · rw[Array.getElem?_setIfInBounds_self_of_lt (by simp;omega)]
   · obtain⟨x,h0,h1,h2⟩:=hr.any j hj
     have k0:=key j hj hne 0 (by omega);rw[Nat.add_zero]at k0;exact⟨x,k0.trans h0,(key j hj hne 1 (by omega)).trans h1,(key j hj hne 2 (by omega)).trans h2⟩
def lenT (w:World) (g:Nat):Nat:=match w.cell? ⟨g,2,none⟩with|some (.int _ n)=>n.toNat|_=>0
theorem lenT_of {w:World} {g n:Nat} (h:w.cell? ⟨g,2,none⟩=some (.int .i64 (n:Nat))):lenT w g=n:=by rw[lenT,h];rfl
def ShR (w:World) (g r:Nat) (m:Int) (E0:List Hd.HdrV) (mo:Nat) (wr:World):Prop:=∃E,TabR wr g r E mo/\shrI m E=shrI m E0/\Bar (λj=>j=g\/j=r) w.heap.size w wr
theorem shrink_any (w:World) (g r:Nat) (E:List Hd.HdrV) (mo:Nat) (m:Int) (h:TabR w g r E mo) (hm:(Lit.int .i64 m).wf=true):
 Calls Tryz.prog 171 #[.pointer (some ⟨g,0,none⟩),.int .i64 m] w λe w'=>e= .returned (.tuple #[])/\TabR w' g r (shrI m E) mo/\Bar (λj=>j=g\/j=r) w.heap.size w w':=by
 have HR:=hid (show ShR w g r m E mo w from⟨E,h,rfl,Bar.refl _ _ _⟩);clear h;go_enter Tryz.func171,Tryz.ntmps171;go_wp2_with fail;go_loopw [4] (λ_ wr=>Hid (ShR w g r m E mo wr)) (λ_ wr=>lenT wr g)
 case atStart=>exact HR
 case round=>
  obtain⟨E1,ht,hs,hb⟩:=hrel.out;have HT:=hid ht;have HS:=hid hs;have HB:=hid hb;obtain⟨old,cs,h3,h4,h2,hsz⟩:=ht;have g0:wr.cell? ⟨g,0,none⟩=some (.slice (some ⟨r,0,none⟩) 128 128):=h3.cell 0;have g1:wr.cell? ⟨g,1,none⟩=some (.int .i64 (old:Nat)):=h3.cell 1;have g2:wr.cell? ⟨g,2,none⟩=some (.int .i64 (E1.length:Nat)):=h3.cell 2;have g3:wr.cell? ⟨g,3,none⟩=some (.int .i64 (hszs E1:Nat)):=h3.cell 3;have h7:=h3.lt;have hD:lenT wr g=E1.length:=lenT_of g2;have hM:=hid hD;clear hrel hs hb hD;by_cases h0:E1=[]\/¬m<(hszs E1:Int)
  · have hE:shrI m E=E1:=by
     rw[<-HS.out];rcases h0 with rfl|h1
     · rfl
     · cases E1 with
       |nil=>rfl
       |cons x E1=>rw[shrI,if_neg h1]
    have HE:=hid hE;clear hE;rcases h0 with rfl|h1
    · go_wp2_with fail
      go_end0;rw[HE.out];exact⟨rfl,HT.out,HB.out⟩
    · have H3:decide (m<((hszs E1:Nat):Int))=false:=by simpa using h1
      go_wp2_with fail;all_goals
       go_end0;rw[HE.out];exact⟨rfl,HT.out,HB.out⟩
  · cases E1 with
    |nil=>exact absurd (.inl rfl) h0
    |cons x E1=>
     have hl:m<((hszs (x::E1):Nat):Int):=Classical.not_not.1 λh=>h0 (.inr h);have H1:decide (m<((hszs (x::E1):Nat):Int))=true:=by simpa using hl
     have H4:(0:Int)<(((x::E1).length:Nat):Int):=by simp
     have h5:=h2.at_ 0 x rfl;have hF:=h2.lt;rw[Nat.add_zero,Nat.mod_eq_of_lt hF]at h5;have hN:=hsize_le (List.mem_cons_self (a:=x) (l:=E1)) hsz;have r0:wr.cell? ⟨r,old*3,none⟩=some (.string x.name):=(h4.cell _).trans h5.1;have r1:wr.cell? ⟨r,old*3+1,none⟩=some (.string x.value):=(h4.cell _).trans h5.2.1;have r2:wr.cell? ⟨r,old*3+2,none⟩=some (.bool x.never):=(h4.cell _).trans h5.2.2;have h9:=hid h4;have hG:=hid h3;have hj:=hid h2;have hO:=hid (λW (hb:Below wr.heap.size wr W)=>(show(W.cell? ⟨g,3,none⟩=some (.int .i64 (hszs (x::E1):Nat))/\W.cell? ⟨g,0,none⟩=some (.slice (some ⟨r,0,none⟩) 128 128)/\W.cell? ⟨g,1,none⟩=some (.int .i64 (old:Nat)))/\W.cell? ⟨r,old*3,none⟩=some (.string x.name)/\W.cell? ⟨r,old*3+1,none⟩=some (.string x.value)/\W.cell? ⟨r,old*3+2,none⟩=some (.bool x.never)from
      ⟨⟨(h3.below hb h3.lt).cell 3,(h3.below hb h3.lt).cell 0,(h3.below hb h3.lt).cell 1⟩,((h4.below hb h4.lt).cell _).trans h5.1,((h4.below hb h4.lt).cell _).trans h5.2.1,((h4.below hb h4.lt).cell _).trans h5.2.2⟩))
     have hn:=hid (hO.out wr (Below.refl _ _));have he:IntKind.i64.wrap (((hszs (x::E1):Nat):Int)-((x.name.size:Int)+(x.value.size:Int)+32))=((hszs E1:Nat):Int):=by
      rw[IntKind.wrap_i64];have:hszs (x::E1)=(x.name.size+x.value.size+32)+hszs E1:=hszs_cons' x E1;rw[this];omega
     have H2:(old:Int)<128:=by omega
     have hH:=hid (show x.name.size<=1000000/\x.value.size<=1000000 from⟨by omega,by omega⟩);have hP:=hid (show shrI m (x::E1)=shrI m E1 from by rw[shrI,if_pos hl]);have hI:=hid (show hszs E1<=4096 by have:=hszs_cons' x E1;omega);clear h2 h3 h4 h5 h0 hl hsz hN hF;generalize hszs (x::E1)=s0 at*
     obtain⟨s1,ho⟩:∃s1,hszs E1=s1:=⟨_,rfl⟩;rw[ho]at he hI;have hJ:=hid ho;clear ho;go_upto_region 1 with fail;have f3:=hG.out.frozen 3;have hq:=h9.out.lt;have hC:=hid (λW=>hsize_any x.name x.value x.never W hH.out.1 hH.out.2);go_cut [17] (λv wx=>Hid (wx=((wr.setCell ⟨g,3,none⟩ (.int .i64 (s1:Nat))).alloc (.cells #[.string x.name,.string x.value,.bool x.never] 63)).drew))
     case first=>
      go_region_with (first
       |(go_at_call 135
         with_reducible refine Calls.mono (hC.out _) ?_
         rintro e w1 ⟨rfl,hw⟩;subst w1)
       |fail)
      all_goals
       go_wp2_with fail;go_meet;exact hid (by simp only[he])
     case rest=>
      have hW:=hcut.out;have hf:Blk wc g 179 #[.slice (some ⟨r,0,none⟩) 128 128,.int .i64 (old:Nat),.int .i64 ((x::E1).length:Nat),.int .i64 (s1:Nat),.int .i64 (mo:Nat)]:=by
       rw[hW];have h1:=(hG.out.put 3 (.int .i64 (s1:Nat))).alloc (.cells #[.string x.name,.string x.value,.bool x.never] 63);simp only[List.setIfInBounds_toArray,List.set_cons_zero,List.set_cons_succ]at h1;exact h1
      have hh:Blk wc r 63 cs:=by
       rw[hW];exact(h9.out.far (p:=⟨g,3,none⟩) (λe=>HT.out.ne e.symm) _).alloc _
      have hK:Bar (λj=>j=g\/j=r) w.heap.size w wc:=by
       rw[hW];exact((HB.out.setCell (p:=⟨g,3,none⟩) (.inr (.inl rfl)) _).alloc (by have:=HB.out.size;simp[World.setCell];omega) _).drew
      have hQ:=hid hK;have hk:=hid hf;have h6:=hid hh;clear hW hcut hK g0 g1 g2 g3 r0 r1 r2 f3 hq h7 hf hh;have g0:wc.cell? ⟨g,0,none⟩=some (.slice (some ⟨r,0,none⟩) 128 128):=hk.out.cell 0;have g1:wc.cell? ⟨g,1,none⟩=some (.int .i64 (old:Nat)):=hk.out.cell 1;have r0:wc.cell? ⟨r,old*3,none⟩=some (.string x.name):=(h6.out.cell _).trans ((h9.out.cell _).symm.trans hn.out.2.1);have r1:wc.cell? ⟨r,old*3+1,none⟩=some (.string x.value):=(h6.out.cell _).trans ((h9.out.cell _).symm.trans hn.out.2.2.1);have r2:wc.cell? ⟨r,old*3+2,none⟩=some (.bool x.never):=(h6.out.cell _).trans ((h9.out.cell _).symm.trans hn.out.2.2.2);have rf0:=h6.out.frozen (old*3);have rf1:=h6.out.frozen (old*3+1);have rf2:=h6.out.frozen (old*3+2);have h7:=hk.out.lt;have hq:=h6.out.lt;go_upto_region 2 with fail;go_region;have hi:=((h6.out.put (old*3) (.string ⟨#[]⟩)).put (old*3+1) (.string ⟨#[]⟩)).put (old*3+2) (.bool false);have hR:=hid (show Blk ((((wc.setCell ⟨r,old*3,none⟩ (.string ⟨#[]⟩)).setCell ⟨r,old*3+1,none⟩ (.string ⟨#[]⟩)).setCell ⟨r,old*3+2,none⟩ (.bool false)).drew) r 63 _ from hi);have hc:=hid (show Blk ((((wc.setCell ⟨r,old*3,none⟩ (.string ⟨#[]⟩)).setCell ⟨r,old*3+1,none⟩ (.string ⟨#[]⟩)).setCell ⟨r,old*3+2,none⟩ (.bool false)).drew) g 179 _ from((hk.out.far (p:=⟨r,old*3,none⟩) HT.out.ne _).far (p:=⟨r,old*3+1,none⟩) HT.out.ne _).far (p:=⟨r,old*3+2,none⟩) HT.out.ne _);have hS:=hid (((hQ.out.setCell (p:=⟨r,old*3,none⟩) (.inr (.inr rfl)) (.string ⟨#[]⟩)).setCell (p:=⟨r,old*3+1,none⟩) (.inr (.inr rfl)) (.string ⟨#[]⟩)).setCell (p:=⟨r,old*3+2,none⟩) (.inr (.inr rfl)) (.bool false)).drew;clear hi g0 g1 r0 r1 r2 rf0 rf1 rf2 h7 hq;generalize ((((wc.setCell ⟨r,old*3,none⟩ (.string ⟨#[]⟩)).setCell ⟨r,old*3+1,none⟩ (.string ⟨#[]⟩)).setCell ⟨r,old*3+2,none⟩ (.bool false)).drew)=W6 at*
      have g0:W6.cell? ⟨g,0,none⟩=some (.slice (some ⟨r,0,none⟩) 128 128):=hc.out.cell 0;have g1:W6.cell? ⟨g,1,none⟩=some (.int .i64 (old:Nat)):=hc.out.cell 1;have gf1:=hc.out.frozen 1;have h7:=hc.out.lt;have hT:IntKind.i64.wrap ((old:Int)+1)=((old+1:Nat):Int):=by have:=hj.out.lt;rw[IntKind.wrap_i64];omega
      have hU:wrap64 ((old:Int)+1)=((old+1:Nat):Int):=by have:=hj.out.lt;unfold wrap64;omega
      have hV:((old:Int)+1).tmod 128=(((old+1) % 128:Nat):Int):=rfl;go_wp2_with fail;go_region;obtain⟨o2,hu⟩:∃o2,(old+1) % 128=o2:=⟨_,rfl⟩;have hX:=hid hu;have e7:((old:Int)+1) % 128=(o2:Int):=by rw[<-hu];rfl
      rw[e7];have h8:=hid (show Blk ((W6.setCell ⟨g,1,none⟩ (.int .i64 (o2:Nat))).drew) g 179 _ from hc.out.put 1 (.int .i64 (o2:Nat)));have hY:=hid (show Blk ((W6.setCell ⟨g,1,none⟩ (.int .i64 (o2:Nat))).drew) r 63 _ from hR.out.far (p:=⟨g,1,none⟩) (λe=>HT.out.ne e.symm) _);have hZ:=hid (hS.out.setCell (p:=⟨g,1,none⟩) (.inr (.inl rfl)) (.int .i64 (o2:Nat))).drew;simp only[List.setIfInBounds_toArray,List.set_cons_zero,List.set_cons_succ]at h8;clear g0 g1 gf1 h7 hT hU hV e7 hu;generalize (W6.setCell ⟨g,1,none⟩ (.int .i64 (o2:Nat))).drew=W7 at*
      obtain⟨ln,hd⟩:∃ln,E1.length=ln:=⟨_,rfl⟩;have g2:W7.cell? ⟨g,2,none⟩=some (.int .i64 ((x::E1).length:Nat)):=h8.out.cell 2;rw[show(x::E1).length=ln+1 by rw[<-hd];rfl]at g2;have gf2:=h8.out.frozen 2;have h7:=h8.out.lt;have hA:=hj.out.le;have H0:=w64_pred ln (by rw[<-hd];simp at hA;omega);have H5:=w64_self ln (by rw[<-hd];simp at hA;omega);have H7:wrap64 (((ln+1:Nat):Int)-1)=(ln:Int):=H0;have hL:=hid hd;clear hA hd;go_wp2_with fail;go_roundw
      case rel=>
       refine hid ⟨E1,⟨o2,_,?_,hY.out.far (p:=⟨g,2,none⟩) (λe=>HT.out.ne e.symm) _,by rw[<-hX.out];exact hj.out.drop,?_⟩,?_,hZ.out.setCell (p:=⟨g,2,none⟩) (.inr (.inl rfl)) _⟩
       · have h1:=h8.out.put 2 (.int .i64 (ln:Nat))
         simp only[List.setIfInBounds_toArray,List.set_cons_zero,List.set_cons_succ]at h1;rw[hL.out,hJ.out];exact h1
       · rw[hJ.out];exact hI.out
       · exact hP.out.symm.trans HS.out
      case measure=>
       rw[hM.out];have h1:=lenT_of ((h8.out.put 2 (.int .i64 (ln:Nat))).cell 2);rw[h1,List.length_cons,hL.out];omega
end Go.Proofs.YtkpppjhbmnfmkaaGreatDoor
end

section
set_option maxHeartbeats 8000000
set_option maxRecDepth 100000
namespace Go.Proofs.YtkpppjhbmnfmkaaGreatDoor
open Lib (hid)
open Go.RowKit Go.Own Go.Own.Cx
attribute [local go_sem] Oper.semAt_some
theorem RingC.snoc {cs:Array Value} {old:Nat} {E:List Hd.HdrV} (hr:RingC cs old E) (h:Hd.HdrV) (hl:E.length<128) (p:Nat) (hp:p=(old+E.length) % 128):RingC (((cs.setIfInBounds (p*3) (.string h.name)).setIfInBounds (p*3+1) (.string h.value)).setIfInBounds (p*3+2) (.bool h.never)) old (E++[h]):=by
 have h5:=hr.lt;have hs:=hr.size;have h4:p<128:=by rw[hp];exact Nat.mod_lt _ (by omega)
 have key:∀j,j<128->j≠p->∀t,t<3->(((cs.setIfInBounds (p*3) (.string h.name)).setIfInBounds (p*3+1) (.string h.value)).setIfInBounds (p*3+2) (.bool h.never))[j*3+t]?=cs[j*3+t]?:=λj hj hne t ht=>by
  rw[Array.getElem?_setIfInBounds_ne (by omega),Array.getElem?_setIfInBounds_ne (by omega),Array.getElem?_setIfInBounds_ne (by omega)]
 have self:(((cs.setIfInBounds (p*3) (.string h.name)).setIfInBounds (p*3+1) (.string h.value)).setIfInBounds (p*3+2) (.bool h.never))[p*3]?=some (.string h.name)/\(((cs.setIfInBounds (p*3) (.string h.name)).setIfInBounds (p*3+1) (.string h.value)).setIfInBounds (p*3+2) (.bool h.never))[p*3+1]?=some (.string h.value)/\(((cs.setIfInBounds (p*3) (.string h.name)).setIfInBounds (p*3+1) (.string h.value)).setIfInBounds (p*3+2) (.bool h.never))[p*3+2]?=some (.bool h.never):=by
  refine⟨?_,?_,?_⟩
  · rw[Array.getElem?_setIfInBounds_ne (by omega),Array.getElem?_setIfInBounds_ne (by omega),Array.getElem?_setIfInBounds_self_of_lt (by omega)]
  · rw[Array.getElem?_setIfInBounds_ne (by omega),Array.getElem?_setIfInBounds_self_of_lt (by simp;omega)]
  · rw[Array.getElem?_setIfInBounds_self_of_lt (by simp;omega)]
 refine⟨by simp[hs],h5,by simp;omega,λk x hk=>?_,λj hj=>?_⟩
 · rcases Nat.lt_or_ge k E.length with h3|h3
   · have h1:=hr.at_ k x (by rw[List.getElem?_append_left h3]at hk;exact hk)
     have hne:(old+k) % 128≠p:=by rw[hp];omega
     have k0:=key _ (Nat.mod_lt (old+k) (by omega)) hne 0 (by omega);have k1:=key _ (Nat.mod_lt (old+k) (by omega)) hne 1 (by omega);have k2:=key _ (Nat.mod_lt (old+k) (by omega)) hne 2 (by omega);rw[Nat.add_zero]at k0;exact⟨k0.trans h1.1,k1.trans h1.2.1,k2.trans h1.2.2⟩
   · rw[List.getElem?_append_right h3]at hk
     have h6:k-E.length=0:=by
      have:=(List.getElem?_eq_some_iff.1 hk).1;simp at this;omega
     rw[h6]at hk;have h7:k=E.length:=by omega
     injection hk with hk
     subst hk;rw[h7,<-hp];exact self
 · by_cases hne:j=p
   · subst hne
     exact⟨h,self⟩
   · obtain⟨x,h0,h1,h2⟩:=hr.any j hj
     have k0:=key j hj hne 0 (by omega);rw[Nat.add_zero]at k0;exact⟨x,k0.trans h0,(key j hj hne 1 (by omega)).trans h1,(key j hj hne 2 (by omega)).trans h2⟩
theorem tadd_any (w:World) (g r:Nat) (E:List Hd.HdrV) (mo:Nat) (h:Hd.HdrV) (ht:TabR w g r E mo) (hZ:mo<=4096) (h1:h.name.size<=1000000) (h2:h.value.size<=1000000):
 Calls Tryz.prog 140 #[.pointer (some ⟨g,0,none⟩),.agg (hdrC h)] w λe w'=>e= .returned (.tuple #[])/\TabR w' g r (Hk.TM.add ⟨E,mo⟩ h).E mo/\Bar (λj=>j=g\/j=r) w.heap.size w w':=by
 obtain⟨hn,hv,hne⟩:=h;simp only[hdrC]at h1 h2 ⊢;have HX:=hid (Blk.new w 63 #[.string hn,.string hv,.bool hne]);have hi:=hid ((Below.refl w.heap.size w).alloc (Nat.le_refl _) (.cells #[.string hn,.string hv,.bool hne] 63));have HL:=hid ht.lt;have hu:=hid (ht.below hi.out ht.lt.1 ht.lt.2);have hT:=hid (Bar.of hi.out (λj=>j=g\/j=r));have Hu:=hid (λW=>hsize_any hn hv hne W h1 h2);have h5:=hid (And.intro hZ (And.intro h1 h2));clear ht hZ;go_enter Tryz.func140,Tryz.ntmps140;go_upto_region 1 with fail;generalize w.alloc (.cells #[.string hn,.string hv,.bool hne] 63)=W0 at*
 have HQ:=hid (λW (hb:Blk W w.heap.size 63 #[.string hn,.string hv,.bool hne]) (E1:List Hd.HdrV) (ht:TabR W g r E1 mo)=>(show W.cell? ⟨g,4,none⟩=some (.int .i64 (mo:Nat))/\W.cell? ⟨w.heap.size,0,none⟩=some (.string hn)/\W.cell? ⟨w.heap.size,1,none⟩=some (.string hv)/\W.cell? ⟨w.heap.size,2,none⟩=some (.bool hne)from by
  obtain⟨old,cs,hd,_⟩:=ht;exact⟨hd.cell 4,hb.cell 0,hb.cell 1,hb.cell 2⟩))
 have Hv:=hid (HQ.out W0 HX.out E hu.out);have hU:=hid (HQ.out W0.drew HX.out E (hu.out.drewN 1));obtain⟨s,hs⟩:∃s,hn.size+hv.size+32=s:=⟨_,rfl⟩;have hj:(hn.size:Int)+(hv.size:Int)+32=(s:Int):=by omega
 have hl:=hid (λW (Hx:Blk W w.heap.size 63 #[.string hn,.string hv,.bool hne]) (E1:List Hd.HdrV) (ht:TabR W g r E1 mo)=>(show Calls Tryz.prog 135 #[.agg #[.string hn,.string hv,.bool hne]] W λe w'=>e= .returned (.int .i64 (s:Nat))/\Blk w' w.heap.size 63 #[.string hn,.string hv,.bool hne]/\TabR w' g r E1 mo/\Below W.heap.size W w' from by
  refine(Hu.out W).mono ?_;rintro e w' ⟨rfl,rfl⟩;have hb:=(Below.refl W.heap.size W).alloc (Nat.le_refl _) (.cells #[.string hn,.string hv,.bool hne] 63);exact⟨by rw[hs],Hx.alloc _,ht.below hb ht.lt.1 ht.lt.2,hb⟩))
 have H0:(Lit.int .i64 ((mo:Int)-(s:Int))).wf=true:=by have:=h5.out;simp[Lit.wf,IntKind.min,IntKind.max,IntKind.bits,IntKind.signed];omega
 have g1:wrap64 ((mo:Int)-(s:Int))=(mo:Int)-(s:Int):=by have:=h5.out;unfold wrap64;omega
 have HZ:IntKind.i64.wrap ((mo:Int)-(s:Int))=(mo:Int)-(s:Int):=by have:=h5.out;rw[IntKind.wrap_i64];omega
 have Hy:=hid (λW (ht:TabR W g r E mo)=>shrink_any W g r E mo ((mo:Int)-(s:Int)) ht H0);have hk:=hid hs;clear H0 hs hj h1 h2;go_region_held3 (λW'=>W'.cell? ⟨g,4,none⟩=some (.int .i64 (mo:Nat))/\W'.cell? ⟨w.heap.size,0,none⟩=some (.string hn)/\W'.cell? ⟨w.heap.size,1,none⟩=some (.string hv)/\W'.cell? ⟨w.heap.size,2,none⟩=some (.bool hne)) (first|with_reducible exact Hv.out|with_reducible exact hU.out|with_reducible exact HB.out|with_reducible exact hV.out|with_reducible exact H1.out|with_reducible exact ho.out) (first
  |(go_at_call 135
    with_reducible refine Calls.mono (hl.out _ ?_ E ?_) ?_
    · exact HX.out
    · first|exact hu.out|exact hu.out.drewN 1
    rintro e w1 ⟨rfl,hA,hC,H2⟩;have H3:=hid hA;have H4:=hid hC;have hN:=hid (show Below W0.heap.size W0 w1 from(bdN (Below.refl _ _) 1 |>.trans H2));have HB:=hid (HQ.out w1 hA E hC);have hV:=hid (HQ.out w1.drew hA E (hC.drewN 1));clear hA hC H2)
  |(go_at_call 171
    with_reducible refine Calls.mono (Hy.out _ ?_) ?_
    · first|exact H4.out|exact H4.out.drewN 1
    rintro e w2 ⟨rfl,hD,hO⟩;have H5:=hid hD;have H7:=hid (show Bar (λj=>j=g\/j=r) w1.heap.size w1 w2 from hO);have hE:=hO.blk (H3.out) H3.out.lt (by have:=HL.out;omega);have HC:=hid hE;have H1:=hid (HQ.out w2 hE _ hD);have ho:=hid (HQ.out w2.drew hE _ (hD.drewN 1));clear hD hO hE)
  |fail)
 have hW:=hid (hl.out);go_wp2_with fail;go_region_held3 (λW'=>W'.cell? ⟨g,4,none⟩=some (.int .i64 (mo:Nat))/\W'.cell? ⟨w.heap.size,0,none⟩=some (.string hn)/\W'.cell? ⟨w.heap.size,1,none⟩=some (.string hv)/\W'.cell? ⟨w.heap.size,2,none⟩=some (.bool hne)) (first|with_reducible exact H1.out|with_reducible exact ho.out|with_reducible exact HD.out|with_reducible exact hX.out) (first
  |(go_at_call 135
    with_reducible refine Calls.mono (hW.out _ ?_ (shrI ((mo:Int)-(s:Int)) E) ?_) ?_
    · exact HC.out
    · first|exact H5.out|exact H5.out.drewN 1
    rintro e w3 ⟨rfl,hF,hf,H8⟩;have hG:=hid hF;have hP:=hid hf;have HF:=hid (show Below w2.heap.size w2 w3 from(bdN (Below.refl _ _) 1 |>.trans H8));have HD:=hid (HQ.out w3 hF _ hf);have hX:=hid (HQ.out w3.drew hF _ (hf.drewN 1));clear hF hf H8)
  |fail)
 have H9:=hid (show Bar (λj=>j=g\/j=r) w.heap.size w w3 from((hT.out.trans (Bar.of (hN.out.mono hi.out.size) _)).trans (H7.out.mono (Nat.le_trans hi.out.size hN.out.size))).trans (Bar.of (HF.out.mono (Nat.le_trans (Nat.le_trans hi.out.size hN.out.size) H7.out.size)) _));by_cases h4:mo<s
 · have Ha:(mo:Int)<(s:Int):=Int.ofNat_lt.2 h4
   have he:shrI ((mo:Int)-(s:Int)) E=[]:=shrI_neg (by omega) E;have HE:=hid he;have hh:=hid (show(Hk.TM.add ⟨E,mo⟩ ⟨hn,hv,hne⟩).E=[]by
    unfold Hk.TM.add;rw[if_pos (show mo<Hk.hz ⟨hn,hv,hne⟩by show mo<hn.size+hv.size+32;rw[hk.out];exact h4)])
   clear he;go_wp2_with fail;refine bodyPost_ret (results_none rfl _ _ _) rfl ?_;rw[hh.out];have h1:=hP.out;rw[HE.out]at h1;exact⟨rfl,h1,H9.out⟩
 · have Ha:¬(mo:Int)<(s:Int):=λh=>h4 (Int.ofNat_lt.1 h)
   obtain⟨m,hm⟩:∃m,mo-s=m:=⟨_,rfl⟩;have Hb:(mo:Int)-(s:Int)=(m:Int):=by omega
   obtain⟨E2,hH⟩:∃E2,Hk.shrink m E=E2:=⟨_,rfl⟩;have he:shrI ((mo:Int)-(s:Int)) E=E2:=by rw[Hb,shrI_nat,hH]
   have HG:hszs E2<=m:=by rw[<-hH];exact Hk.shrink_le m E
   have hh:=hid (show(Hk.TM.add ⟨E,mo⟩ ⟨hn,hv,hne⟩).E=E2++[⟨hn,hv,false⟩]by
    unfold Hk.TM.add;have hz:Hk.hz ⟨hn,hv,hne⟩=s:=hk.out;rw[if_neg (by rw[hz];exact h4),hz];show Hk.shrink (mo-s) E++[Hk.off ⟨hn,hv,hne⟩]=_;rw[hm,hH]
    rfl)
   have hf:=hP.out;rw[he]at hf;obtain⟨old,cs,hd,Hc,h9,hsz⟩:=hf;have hQ:=hid h9;have HH:=hid hd;have HI:=hid Hc;have He:=hid (show hszs E2+s<=mo by omega);have h6:=hid (hP.out.ne);have hq:E2.length<128:=by
    have h1:=hszs_32 E2;have h2:32<=s:=by have:=hk.out;omega
    have:=h5.out.1;omega
   have Hg:=hid hq;obtain⟨ln,hR⟩:∃ln,E2.length=ln:=⟨_,rfl⟩;have g2:w3.cell? ⟨g,2,none⟩=some (.int .i64 (ln:Nat)):=by rw[<-hR];exact hd.cell 2
   have gf2:=hd.frozen 2;have Hh:=hd.lt;have x2:w3.cell? ⟨w.heap.size,2,none⟩=some (.bool hne):=hG.out.cell 2;have xf2:=hG.out.frozen 2;have hI:=hG.out.lt;have h0:=hid (show w.heap.size≠g/\w.heap.size≠r by have:=HL.out;omega);have Hi:=h0.out.1;have HK:g≠w.heap.size:=λe=>Hi e.symm;have HN:=w64_succ ln (by omega);have hS:=hid hR;clear hd Hc h9 hsz HG hq he hH Hb hm h4 hR;go_upto_region 4 with fail;have Hj:=hid (HH.out.put 2 (.int .i64 ((ln+1:Nat):Int)));simp only[List.setIfInBounds_toArray,List.set_cons_zero,List.set_cons_succ]at Hj;have HO:=hid (HI.out.far (p:=⟨g,2,none⟩) (λe=>h6.out e.symm) (.int .i64 ((ln+1:Nat):Int)));have hJ:=hid (hG.out.far (p:=⟨g,2,none⟩) Hi (.int .i64 ((ln+1:Nat):Int)));have HR:=hid (H9.out.setCell (p:=⟨g,2,none⟩) (.inr (.inl rfl)) (.int .i64 ((ln+1:Nat):Int)));rw[show((ln:Int)+1)=((ln+1:Nat):Int)from rfl];clear g2 gf2 Hh x2 xf2 hI HN Ha;generalize w3.setCell ⟨g,2,none⟩ (.int .i64 ((ln+1:Nat):Int))=W4 at*
   have x2:W4.cell? ⟨w.heap.size,2,none⟩=some (.bool hne):=hJ.out.cell 2;have xf2:=hJ.out.frozen 2;have hI:=hJ.out.lt;go_upto_region 5 with fail;have h7:=hid (hJ.out.put 2 (.bool false));simp only[List.setIfInBounds_toArray,List.set_cons_zero,List.set_cons_succ]at h7;have hK:=hid (Hj.out.far (p:=⟨w.heap.size,2,none⟩) HK (.bool false));have h8:=hid (HO.out.far (p:=⟨w.heap.size,2,none⟩) (λe=>h0.out.2 e.symm) (.bool false));have HS:=hid (HR.out.setCell (p:=⟨w.heap.size,2,none⟩) (.inl (Nat.le_refl _)) (.bool false));clear x2 xf2 hI;generalize W4.setCell ⟨w.heap.size,2,none⟩ (.bool false)=W5 at*
   have Hl:=hid (show W5.cell? ⟨g,0,none⟩=some (.slice (some ⟨r,0,none⟩) 128 128)/\W5.cell? ⟨w.heap.size,0,none⟩=some (.string hn)/\W5.cell? ⟨w.heap.size,1,none⟩=some (.string hv)/\W5.cell? ⟨w.heap.size,2,none⟩=some (.bool false)from⟨hK.out.cell 0,h7.out.cell 0,h7.out.cell 1,h7.out.cell 2⟩);have Hm:=hid (λk=>(show(W5.drewN k).cell? ⟨g,0,none⟩=some (.slice (some ⟨r,0,none⟩) 128 128)/\(W5.drewN k).cell? ⟨w.heap.size,0,none⟩=some (.string hn)/\(W5.drewN k).cell? ⟨w.heap.size,1,none⟩=some (.string hv)/\(W5.drewN k).cell? ⟨w.heap.size,2,none⟩=some (.bool false)from Hl.out));obtain⟨p,hp⟩:∃p,(old+ln) % 128=p:=⟨_,rfl⟩;have HT:=hid (λk=>(show Calls Tryz.prog 172 #[.pointer (some ⟨g,0,none⟩),.int .i64 0] (W5.drewN k) λe w'=>e= .returned (.int .i64 (p:Nat))/\∃n,w'=W5.drewN n from by
    have h:=tat_any (W5.drewN k) g r old (ln+1) 0 _ _ (hK.out.drewN k) hQ.out.lt (by have:=Hg.out;have:=hS.out;omega) (by omega);rw[show(old+(ln+1)-1-0) % 128=p by rw[<-hp];congr 1]at h;refine h.mono ?_;rintro e w' ⟨rfl,n,rfl⟩;exact⟨rfl,drewN_post _ _ _⟩))
   have hc:p<128:=by rw[<-hp];exact Nat.mod_lt _ (by omega)
   have g4:(p:Int)<128:=by omega
   have HU:=hid (And.intro hp hc);obtain⟨y,Hn,Ho,Hp⟩:=hQ.out.any p hc;have rf0:=h8.out.frozen (p*3);have rf1:=h8.out.frozen (p*3+1);have rf2:=h8.out.frozen (p*3+2);have r0:W5.cell? ⟨r,p*3,none⟩=some (.string y.name):=(h8.out.cell _).trans Hn;have r1:W5.cell? ⟨r,p*3+1,none⟩=some (.string y.value):=(h8.out.cell _).trans Ho;have r2:W5.cell? ⟨r,p*3+2,none⟩=some (.bool y.never):=(h8.out.cell _).trans Hp;have HV:=h8.out.lt;have Hq:=hid (λk v0 v1 v2=>(show((((W5.drewN k).setCell ⟨r,p*3,none⟩ v0).setCell ⟨r,p*3+1,none⟩ v1).setCell ⟨r,p*3+2,none⟩ v2).cell? ⟨g,0,none⟩=some (.slice (some ⟨r,0,none⟩) 128 128)/\((((W5.drewN k).setCell ⟨r,p*3,none⟩ v0).setCell ⟨r,p*3+1,none⟩ v1).setCell ⟨r,p*3+2,none⟩ v2).cell? ⟨w.heap.size,0,none⟩=some (.string hn)/\((((W5.drewN k).setCell ⟨r,p*3,none⟩ v0).setCell ⟨r,p*3+1,none⟩ v1).setCell ⟨r,p*3+2,none⟩ v2).cell? ⟨w.heap.size,1,none⟩=some (.string hv)/\((((W5.drewN k).setCell ⟨r,p*3,none⟩ v0).setCell ⟨r,p*3+1,none⟩ v1).setCell ⟨r,p*3+2,none⟩ v2).cell? ⟨w.heap.size,2,none⟩=some (.bool false)from
    ⟨((((hK.out.drewN k).far (p:=⟨r,p*3,none⟩) h6.out v0).far (p:=⟨r,p*3+1,none⟩) h6.out v1).far (p:=⟨r,p*3+2,none⟩) h6.out v2).cell 0,((((h7.out.drewN k).far (p:=⟨r,p*3,none⟩) h0.out.2 v0).far (p:=⟨r,p*3+1,none⟩) h0.out.2 v1).far (p:=⟨r,p*3+2,none⟩) h0.out.2 v2).cell 0,((((h7.out.drewN k).far (p:=⟨r,p*3,none⟩) h0.out.2 v0).far (p:=⟨r,p*3+1,none⟩) h0.out.2 v1).far (p:=⟨r,p*3+2,none⟩) h0.out.2 v2).cell 1,((((h7.out.drewN k).far (p:=⟨r,p*3,none⟩) h0.out.2 v0).far (p:=⟨r,p*3+1,none⟩) h0.out.2 v1).far (p:=⟨r,p*3+2,none⟩) h0.out.2 v2).cell 2⟩))
   clear hp Hn Ho Hp;go_region_held3 (λW'=>W'.cell? ⟨g,0,none⟩=some (.slice (some ⟨r,0,none⟩) 128 128)/\W'.cell? ⟨w.heap.size,0,none⟩=some (.string hn)/\W'.cell? ⟨w.heap.size,1,none⟩=some (.string hv)/\W'.cell? ⟨w.heap.size,2,none⟩=some (.bool false)) (first|with_reducible exact Hl.out|with_reducible exact Hm.out _|with_reducible exact Hq.out _ _ _ _|exact Hm.out _|exact Hq.out _ _ _ _) (first
    |(go_at_call 172
      refine Calls.mono (HT.out _) ?_;rintro e w6 ⟨rfl,k6,hw⟩;subst w6)
    |fail)
   have HW:=hid ((((h8.out.drewN k6).put (p*3) (.string hn)).put (p*3+1) (.string hv)).put (p*3+2) (.bool false));have hL:=hid ((((hK.out.drewN k6).far (p:=⟨r,p*3,none⟩) h6.out (.string hn)).far (p:=⟨r,p*3+1,none⟩) h6.out (.string hv)).far (p:=⟨r,p*3+2,none⟩) h6.out (.bool false));have hM:=hid ((((h7.out.drewN k6).far (p:=⟨r,p*3,none⟩) h0.out.2 (.string hn)).far (p:=⟨r,p*3+1,none⟩) h0.out.2 (.string hv)).far (p:=⟨r,p*3+2,none⟩) h0.out.2 (.bool false));have Hs:=hid ((((HS.out.drewN k6).setCell (p:=⟨r,p*3,none⟩) (.inr (.inr rfl)) (.string hn)).setCell (p:=⟨r,p*3+1,none⟩) (.inr (.inr rfl)) (.string hv)).setCell (p:=⟨r,p*3+2,none⟩) (.inr (.inr rfl)) (.bool false));clear rf0 rf1 rf2 r0 r1 r2 HV;generalize (((W5.drewN k6).setCell ⟨r,p*3,none⟩ (.string hn)).setCell ⟨r,p*3+1,none⟩ (.string hv)).setCell ⟨r,p*3+2,none⟩ (.bool false)=W7 at*
   obtain⟨s2,hj⟩:∃s2,hszs E2=s2:=⟨_,rfl⟩;have g3:W7.cell? ⟨g,3,none⟩=some (.int .i64 (s2:Nat)):=by rw[<-hj];exact hL.out.cell 3
   have gf3:=hL.out.frozen 3;have Hh:=hL.out.lt;have x0:W7.cell? ⟨w.heap.size,0,none⟩=some (.string hn):=hM.out.cell 0;have x1:W7.cell? ⟨w.heap.size,1,none⟩=some (.string hv):=hM.out.cell 1;have x2:W7.cell? ⟨w.heap.size,2,none⟩=some (.bool false):=hM.out.cell 2;have hI:=hM.out.lt;have hY:=hid (λW=>hsize_any hn hv false W h5.out.2.1 h5.out.2.2);have g0:IntKind.i64.wrap ((s2:Int)+((hn.size:Int)+(hv.size:Int)+32))=((s2+s:Nat):Int):=by
    have h1:=hk.out;have h2:=He.out;have h3:=h5.out.1;rw[IntKind.wrap_i64];omega
   have Ht:=hid (show hszs (E2++[⟨hn,hv,false⟩])=s2+s by
    rw[<-hj,<-hk.out];simp[hszs,hsz])
   have HY:=hid (show s2+s<=4096 by have:=He.out;have:=h5.out.1;omega);clear hj;go_wp2_with fail;go_region_with (first
    |(go_at_call 135
      with_reducible refine Calls.mono (hY.out _) ?_
      rintro e w8 ⟨rfl,hw⟩;subst w8)
    |fail)
   all_goals
    go_end0;refine⟨rfl,?_,((Hs.out.setCell (p:=⟨g,3,none⟩) (.inr (.inl rfl)) (.int .i64 ((s2+s:Nat):Int))).alloc (by have:=Hs.out.size;simp[World.setCell];omega) _).drew⟩;rw[hh.out];refine⟨old,_,?_,(HW.out.far (p:=⟨g,3,none⟩) (λe=>h6.out e.symm) _).alloc _,hQ.out.snoc ⟨hn,hv,false⟩ Hg.out p (by rw[<-HU.out.1,hS.out]),?_⟩
    · have h1:=(hL.out.put 3 (.int .i64 ((s2+s:Nat):Int))).alloc (.cells #[.string hn,.string hv,.bool false] 63)
      simp only[List.setIfInBounds_toArray,List.set_cons_zero,List.set_cons_succ]at h1;rw[Ht.out,List.length_append,hS.out];exact h1
    · rw[Ht.out]
      exact HY.out
end Go.Proofs.YtkpppjhbmnfmkaaGreatDoor
end

section
set_option maxHeartbeats 4000000
set_option maxRecDepth 100000
namespace Go.Proofs.YtkpppjhbmnfmkaaGreatDoor
open Lib (hid)
open Go.RowKit Go.Own Go.Own.Cx
attribute [local go_sem] Oper.semAt_some
theorem tfits_any (n:Nat) (hn:n<=4096) (w:World):Calls Tryz.prog 99 #[.int .i64 (n:Nat)] w λe w'=>e= .returned (.bool true)/\w'=w:=by
 have h1:(n:Int)<=4096:=by omega
 go_enter Tryz.func99,Tryz.ntmps99;go_wp2;go_ret;exact⟨by simp[hn],rfl⟩
theorem tresize_any (w:World) (g r:Nat) (E:List Hd.HdrV) (mo n:Nat) (ht:TabR w g r E mo) (hn:n<=4096):
 Calls Tryz.prog 220 #[.pointer (some ⟨g,0,none⟩),.int .i64 (n:Nat)] w λe w'=>e= .returned .nilIface/\TabR w' g r (Hk.TM.resize ⟨E,mo⟩ n).E n/\Bar (λj=>j=g\/j=r) w.heap.size w w':=by
 have HF:=hid (tfits_any n hn w);obtain⟨old,cs,h2,h3,h0,hsz⟩:=ht;have g4:w.cell? ⟨g,4,none⟩=some (.int .i64 (mo:Nat)):=h2.cell 4;have gf4:=h2.frozen 4;have h9:=h2.lt;have h1:=h2.put 4 (.int .i64 (n:Nat));simp only[List.setIfInBounds_toArray,List.set_cons_zero,List.set_cons_succ]at h1;have HT:=hid (show TabR (w.setCell ⟨g,4,none⟩ (.int .i64 (n:Nat))) g r E n from⟨old,cs,h1,h3.far (p:=⟨g,4,none⟩) (λe=>blk_ne h2 h3 (by decide) e.symm) _,h0,hsz⟩);have HB:=hid ((Bar.refl (λj=>j=g\/j=r) w.heap.size w).setCell (p:=⟨g,4,none⟩) (.inr (.inl rfl)) (.int .i64 (n:Nat)));have hz:(w.setCell ⟨g,4,none⟩ (.int .i64 (n:Nat))).heap.size=w.heap.size:=by simp[World.setCell]
 have h4:=hid (shrink_any _ g r E n (n:Int) HT.out (by simp[Lit.wf,IntKind.min,IntKind.max,IntKind.bits,IntKind.signed];omega));rw[hz,shrI_nat]at h4;clear h2 h3 h0 hsz h1 hz;go_enter Tryz.func220,Tryz.ntmps220;go_wp2_with (first
  |(go_at_call 99
    with_reducible refine Calls.mono HF.out ?_
    rintro e w1 ⟨rfl,hw⟩;subst w1)
  |(go_at_call 171
    with_reducible refine Calls.mono h4.out ?_
    rintro e w2 ⟨rfl,h5,h6⟩;have h7:=hid h5;have h8:=hid h6;clear h5 h6)
  |fail)
 go_ret;exact⟨rfl,h7.out,HB.out.trans h8.out⟩
def GetPost (t:Hk.TM) (i:Nat) (w:World) (e:Ending) (w':World):Prop:=
 Below w.heap.size w w'/\((∃h,t.get i=some h/\e= .returned (.tuple #[.agg (hdrC h),.bool true]))\/(t.get i=none/\∃h,e= .returned (.tuple #[.agg (hdrC h),.bool false])))
theorem statH_len:Hk.statH.length=61:=by kernel_rfl
theorem tgetA_any (w:World) (g r:Nat) (E:List Hd.HdrV) (mo i:Nat) (ht:TabR w g r E mo) (hi:i<=1000000000000) (hE:HpE w):
 Calls Tryz.prog 170 #[.pointer (some ⟨g,0,none⟩),.int .i64 (i:Nat)] w (GetPost ⟨E,mo⟩ i w):=by
 have h4:=hid ((Below.refl w.heap.size w).alloc (Nat.le_refl _) (.cells #[.string ⟨#[]⟩,.string ⟨#[]⟩,.bool false] 63));have HX:=hid (Blk.new w 63 #[.string ⟨#[]⟩,.string ⟨#[]⟩,.bool false]);obtain⟨m,hm⟩:=hE.max;have hg:13<w.heap.size:=World.block_lt_of_cell? w _ hm;have HL:=hid ht.lt;have HT:=hid (ht.below h4.out ht.lt.1 ht.lt.2);have h8:(w.alloc (.cells #[.string ⟨#[]⟩,.string ⟨#[]⟩,.bool false] 63)).cell? ⟨13,0,none⟩=some (.int .i64 m):=(World.cell?_of_block (h4.out.block _ hg)).trans hm;by_cases ho:i<=61
 · have hf:(i:Int)<=61:=by omega
   have HS:Hid (Calls Tryz.prog 212 #[.int .i64 (i:Nat)] (w.alloc (.cells #[.string ⟨#[]⟩,.string ⟨#[]⟩,.bool false] 63)) λe w'=>∃(h:Hd.HdrV) (b:Bool),e= .returned (.tuple #[.agg (hdrC h),.bool b])/\((b=true/\Hk.TM.get ⟨E,mo⟩ i=some h)\/(b=false/\Hk.TM.get ⟨E,mo⟩ i=none))/\Below (w.alloc (.cells #[.string ⟨#[]⟩,.string ⟨#[]⟩,.bool false] 63)).heap.size (w.alloc (.cells #[.string ⟨#[]⟩,.string ⟨#[]⟩,.bool false] 63)) w'):=by
    rcases Nat.eq_zero_or_pos i with h0|h0
    · subst h0
      refine hid ((static0_any _).mono ?_);rintro e w' ⟨rfl,hb⟩;exact⟨⟨⟨#[]⟩,⟨#[]⟩,false⟩,false,rfl,.inr ⟨rfl,rfl⟩,hb⟩
    · have hj:i-1<Hk.statH.length:=by rw[statH_len];omega
      refine hid ((staticA_any i (i-1) (by omega) _ (List.getElem?_eq_getElem hj) _ m h8).mono ?_);rintro e w' ⟨rfl,hb⟩;refine⟨_,true,rfl,.inl ⟨rfl,?_⟩,hb⟩;unfold Hk.TM.get Hk.TM.all;rw[if_neg (by omega),List.getElem?_append_left hj,List.getElem?_eq_getElem hj]
   clear hm hg h8 ht hi hE;go_enter Tryz.func170,Tryz.ntmps170;go_upto_region 1 with fail;generalize w.alloc (.cells #[.string ⟨#[]⟩,.string ⟨#[]⟩,.bool false] 63)=W0 at*
   go_wp2_with fail;refine HS.out.mono ?_;rintro e w1 ⟨h,b,rfl,hq,hb⟩;obtain⟨hn,hv,hne⟩:=h;simp only[hdrC];have hH:=hid (h4.out.trans (hb.mono h4.out.size));have h3:=hid (HX.out.below hb HX.out.lt);have HR:=hid hq;clear hb hq;have x0:=h3.out.cell 0;have x1:=h3.out.cell 1;have x2:=h3.out.cell 2;have xf:=h3.out.frozen 0;have xf1:=h3.out.frozen 1;have xf2:=h3.out.frozen 2;simp only[List.getElem?_toArray,List.getElem?_cons_zero,List.getElem?_cons_succ]at x0 x1 x2;go_wp2;refine bodyPost_ret (results_tget _ _ w.heap.size _ _ _ _ rfl rfl (Blk3 h3.out rfl _ _ _)) rfl ⟨below3 hH.out (Nat.le_refl _) _ _ _,?_⟩;rcases HR.out with⟨rfl,hg⟩|⟨rfl,hg⟩
   · exact .inl ⟨⟨hn,hv,hne⟩,hg,rfl⟩
   · exact .inr ⟨hg,⟨hn,hv,hne⟩,rfl⟩
 · have hf:¬(i:Int)<=61:=by omega
   obtain⟨old,cs,h2,h9,h1,hsz⟩:=HT.out;obtain⟨ln,h6⟩:∃ln,E.length=ln:=⟨_,rfl⟩;have hI:wrap64 (61+(ln:Int))=((61+ln:Nat):Int):=by have:=h1.le;unfold wrap64;omega
   by_cases hk:61+ln<i
   · have hJ:((61+ln:Nat):Int)<(i:Int):=by omega
     have hl:(61:Int)+(ln:Int)<(i:Int):=by omega
     have HG:=hid (show Hk.TM.get ⟨E,mo⟩ i=none by
      unfold Hk.TM.get Hk.TM.all;rw[if_neg (by omega),List.getElem?_eq_none];rw[List.length_append,statH_len,List.length_reverse];show 61+E.length<=i-1;omega)
     have g2:(w.alloc (.cells #[.string ⟨#[]⟩,.string ⟨#[]⟩,.bool false] 63)).cell? ⟨g,2,none⟩=some (.int .i64 (ln:Nat)):=by rw[<-h6];exact h2.cell 2
     have hK:=h2.lt;clear hm hg h8 ht hi hE h2 h9 h1 hsz h6 ho;go_enter Tryz.func170,Tryz.ntmps170;go_upto_region 1 with fail;generalize w.alloc (.cells #[.string ⟨#[]⟩,.string ⟨#[]⟩,.bool false] 63)=W0 at*
     have x0:=HX.out.cell 0;have x1:=HX.out.cell 1;have x2:=HX.out.cell 2;have xf:=HX.out.frozen 0;have xf1:=HX.out.frozen 1;have xf2:=HX.out.frozen 2;have xl:=HX.out.lt;simp only[List.getElem?_toArray,List.getElem?_cons_zero,List.getElem?_cons_succ]at x0 x1 x2;go_wp2;exact bodyPost_ret (results_tget _ _ w.heap.size _ _ _ _ rfl rfl (Blk3 HX.out rfl _ _ _)) rfl ⟨below3 h4.out (Nat.le_refl _) _ _ _,.inr ⟨HG.out,⟨⟨#[]⟩,⟨#[]⟩,false⟩,rfl⟩⟩
   · have hJ:¬((61+ln:Nat):Int)<(i:Int):=by omega
     have hl:¬(61:Int)+(ln:Int)<(i:Int):=by omega
     obtain⟨j,hj⟩:∃j,i-62=j:=⟨_,rfl⟩;have hL:j<ln:=by omega
     have hu:ln-1-j<E.length:=by omega
     obtain⟨h,hh⟩:∃h,E[ln-1-j]?=some h:=⟨_,List.getElem?_eq_getElem hu⟩;have HG:=hid (show Hk.TM.get ⟨E,mo⟩ i=some h by
      unfold Hk.TM.get Hk.TM.all;rw[if_neg (by omega),List.getElem?_append_right (by rw[statH_len];omega),statH_len];show E.reverse[i-1-61]?=_;rw[List.getElem?_reverse (by omega),<-hh]
      congr 1
      omega)
     have hc:=h1.at_ _ _ hh;obtain⟨p,hp⟩:∃p,(old+(ln-1-j)) % 128=p:=⟨_,rfl⟩;have hG:p<128:=by rw[<-hp];exact Nat.mod_lt _ (by omega)
     have hP:(p:Int)<128:=by omega
     rw[hp]at hc;have hM:=h1.le;have e1:wrap64 ((i:Int)-61)=((i-61:Nat):Int):=by unfold wrap64;omega
     have e2:wrap64 (((i-61:Nat):Int)-1)=(j:Int):=by unfold wrap64;omega
     have e3:IntKind.i64.wrap ((i:Int)-61)=((i-61:Nat):Int):=by rw[IntKind.wrap_i64];omega
     have e4:IntKind.i64.wrap (((i-61:Nat):Int)-1)=(j:Int):=by rw[IntKind.wrap_i64];omega
     obtain⟨a,ha⟩:∃a,i-61=a:=⟨_,rfl⟩;rw[ha]at e1 e2 e3 e4;obtain⟨hn,hv,hne⟩:=h;have HK:=hid h2;have h7:=hid h9;have hN:Hid (∀k,Calls Tryz.prog 172 #[.pointer (some ⟨g,0,none⟩),.int .i64 (j:Nat)] ((w.alloc (.cells #[.string ⟨#[]⟩,.string ⟨#[]⟩,.bool false] 63)).drewN k) λe w'=>e= .returned (.int .i64 (p:Nat))/\∃n,w'=(w.alloc (.cells #[.string ⟨#[]⟩,.string ⟨#[]⟩,.bool false] 63)).drewN n):=hid (λk=>by
      have h:=tat_any _ g r old E.length j _ _ (h2.drewN k) h1.lt (by omega) (by omega);rw[show(old+E.length-1-j) % 128=p by rw[<-hp,h6];congr 1;omega]at h;refine h.mono ?_;rintro e w' ⟨rfl,n,rfl⟩;exact⟨rfl,drewN_post _ _ _⟩)
     have g2:(w.alloc (.cells #[.string ⟨#[]⟩,.string ⟨#[]⟩,.bool false] 63)).cell? ⟨g,2,none⟩=some (.int .i64 (ln:Nat)):=by rw[<-h6];exact h2.cell 2
     have hK:=h2.lt;have h5:=hid hc;have hA:=hid (show w.heap.size≠g/\w.heap.size≠r by have:=HL.out;omega);have hO:=hI;clear hm hg h8 ht hi hE h2 h9 h1 hsz h6 ho hk hj hL hu hh hc hp hM ha;go_enter Tryz.func170,Tryz.ntmps170;go_upto_region 1 with fail;generalize w.alloc (.cells #[.string ⟨#[]⟩,.string ⟨#[]⟩,.bool false] 63)=W0 at*
     have hC:=hid (show W0.cell? ⟨g,0,none⟩=some (.slice (some ⟨r,0,none⟩) 128 128)/\W0.cell? ⟨r,p*3,none⟩=some (.string hn)/\W0.cell? ⟨r,p*3+1,none⟩=some (.string hv)/\W0.cell? ⟨r,p*3+2,none⟩=some (.bool hne)from⟨HK.out.cell 0,(h7.out.cell _).trans h5.out.1,(h7.out.cell _).trans h5.out.2.1,(h7.out.cell _).trans h5.out.2.2⟩);have hD:=hid (λk=>(show(W0.drewN k).cell? ⟨g,0,none⟩=some (.slice (some ⟨r,0,none⟩) 128 128)/\(W0.drewN k).cell? ⟨r,p*3,none⟩=some (.string hn)/\(W0.drewN k).cell? ⟨r,p*3+1,none⟩=some (.string hv)/\(W0.drewN k).cell? ⟨r,p*3+2,none⟩=some (.bool hne)from hC.out));have hd:r≠w.heap.size:=λe=>hA.out.2 e.symm;have he:g≠w.heap.size:=λe=>hA.out.1 e.symm;have hF:=hid (λk v0 v1 v2=>(show((((W0.drewN k).setCell ⟨w.heap.size,0,none⟩ v0).setCell ⟨w.heap.size,1,none⟩ v1).setCell ⟨w.heap.size,2,none⟩ v2).cell? ⟨g,0,none⟩=some (.slice (some ⟨r,0,none⟩) 128 128)/\((((W0.drewN k).setCell ⟨w.heap.size,0,none⟩ v0).setCell ⟨w.heap.size,1,none⟩ v1).setCell ⟨w.heap.size,2,none⟩ v2).cell? ⟨r,p*3,none⟩=some (.string hn)/\((((W0.drewN k).setCell ⟨w.heap.size,0,none⟩ v0).setCell ⟨w.heap.size,1,none⟩ v1).setCell ⟨w.heap.size,2,none⟩ v2).cell? ⟨r,p*3+1,none⟩=some (.string hv)/\((((W0.drewN k).setCell ⟨w.heap.size,0,none⟩ v0).setCell ⟨w.heap.size,1,none⟩ v1).setCell ⟨w.heap.size,2,none⟩ v2).cell? ⟨r,p*3+2,none⟩=some (.bool hne)from by
      have k1:=(((HK.out.drewN k).far (p:=⟨w.heap.size,0,none⟩) he v0).far (p:=⟨w.heap.size,1,none⟩) he v1).far (p:=⟨w.heap.size,2,none⟩) he v2;have k2:=(((h7.out.drewN k).far (p:=⟨w.heap.size,0,none⟩) hd v0).far (p:=⟨w.heap.size,1,none⟩) hd v1).far (p:=⟨w.heap.size,2,none⟩) hd v2;exact⟨k1.cell 0,(k2.cell _).trans h5.out.1,(k2.cell _).trans h5.out.2.1,(k2.cell _).trans h5.out.2.2⟩))
     have x0:=HX.out.cell 0;have x1:=HX.out.cell 1;have x2:=HX.out.cell 2;have xf:=HX.out.frozen 0;have xf1:=HX.out.frozen 1;have xf2:=HX.out.frozen 2;have xl:=HX.out.lt;have hQ:=h7.out.lt;simp only[List.getElem?_toArray,List.getElem?_cons_zero,List.getElem?_cons_succ]at x0 x1 x2;go_upto_region 5 with fail;go_region_held3 (λW'=>W'.cell? ⟨g,0,none⟩=some (.slice (some ⟨r,0,none⟩) 128 128)/\W'.cell? ⟨r,p*3,none⟩=some (.string hn)/\W'.cell? ⟨r,p*3+1,none⟩=some (.string hv)/\W'.cell? ⟨r,p*3+2,none⟩=some (.bool hne)) (first|with_reducible exact hC.out|with_reducible exact hD.out _|with_reducible exact hF.out _ _ _ _|exact hD.out _|exact hF.out _ _ _ _) (first
      |(go_at_call 172
        refine Calls.mono (hN.out _) ?_;rintro e w6 ⟨rfl,k6,hw⟩;subst w6)
      |fail)
     all_goals
      go_wp2_with fail;exact bodyPost_ret (results_tget _ _ w.heap.size _ _ _ _ rfl rfl (Blk3 (HX.out.drewN k6) rfl _ _ _)) rfl ⟨below3 (bdN h4.out k6) (Nat.le_refl _) _ _ _,.inl ⟨⟨hn,hv,hne⟩,HG.out,rfl⟩⟩
end Go.Proofs.YtkpppjhbmnfmkaaGreatDoor
end

section
set_option maxHeartbeats 2000000
set_option maxRecDepth 100000
namespace Go.Proofs.YtkpppjhbmnfmkaaGreatDoor
open Lib (hid)
open Go.RowKit Go.Own Go.Own.Cx
attribute [local go_sem] Oper.semAt_some
def hflt (a:Addr):List PanicEntry:=[{v:=.iface 279 (.agg #[ev a]),recovered:=false}]
structure DT (w:World) (d tb r:Nat) (t:Hk.TM):Prop where
 dec:Blk w d 137 #[.pointer (some ⟨tb,0,none⟩),.int .i64 4096,.bool false]
 tab:TabR w tb r t.E t.most
 sz:hszs t.E<=t.most
 mo:t.most<=4096
def TX (tb r:Nat):Nat->Prop:=λj=>j=tb\/j=r
structure BR (w:World) (B g d tb r:Nat) (A:Option Addr) (n c:Nat) (l:List UInt8) (ov:Value) (out:List Hd.HdrV) (t:Hk.TM):Prop where
 blk:Blk w g 255 #[.pointer (some ⟨d,0,none⟩),.slice A n c,ov,.int .i64 (hszs out:Nat)]
 hg:B<=g
 le:n<=c
 few:n<=1000000
 rd_:Rd w B A n l
 far:0<n->∀ad,A=some ad->¬TX tb r ad.block
 dt:DT w d tb r t
 lt:d<B/\tb<B/\r<B
 nd:¬TX tb r d
 room:20<=B/\20<=tb/\20<=r/\B<=w.heap.size
 out_:Cm.Ew hdrC 63 3 w B ov out
 ne:∀j,ov.ownBlock=some j->j≠g
 env:HpE w
section
variable {w w':World} {B g d tb r n c:Nat} {A:Option Addr} {l:List UInt8} {ov:Value} {out:List Hd.HdrV} {t:Hk.TM}
theorem DT.below {B:Nat} (h:DT w d tb r t) (hb:Below B w w') (h1:d<B/\tb<B/\r<B):DT w' d tb r t:=⟨h.dec.below hb h1.1,h.tab.below hb h1.2.1 h1.2.2,h.sz,h.mo⟩
theorem BR.below (h:BR w B g d tb r A n c l ov out t) (hb:Below w.heap.size w w'):BR w' B g d tb r A n c l ov out t:=
 ⟨h.blk.below hb h.blk.lt,h.hg,h.le,h.few,h.rd_.below (hb.mono h.room.2.2.2),h.far,h.dt.below (hb.mono h.room.2.2.2) h.lt,h.lt,h.nd,⟨h.room.1,h.room.2.1,h.room.2.2.1,Nat.le_trans h.room.2.2.2 hb.size⟩,h.out_.below hb,h.ne,h.env.below hb (Nat.le_trans h.room.1 h.room.2.2.2)⟩
theorem BR.drewN (h:BR w B g d tb r A n c l ov out t) (k:Nat):BR (w.drewN k) B g d tb r A n c l ov out t:=h.below (bdN (Below.refl _ _) k)
theorem _root_.Go.Own.Cx.Bar.below (h:Below w.heap.size w w') (hB:B<=w.heap.size) (X:Nat->Prop):Bar X B w w':=Bar.of (h.mono hB) X
theorem BR.cut (h:BR w B g d tb r A n c l ov out t) {A':Option Addr} {k:Nat} (hk:k<=n) (hr:Rd w B A' (n-k) (l.drop k)) (hA:(if c=k then A else A.map (·.add k))=A'):
 BR (w.setCell ⟨g,1,none⟩ (.slice A' (n-k) (c-k))) B g d tb r A' (n-k) (c-k) (l.drop k) ov out t/\Bar (TX tb r) B w (w.setCell ⟨g,1,none⟩ (.slice A' (n-k) (c-k))):=by
 have hg:=h.hg;have h0:=h.le;have hb:Below B w (w.setCell ⟨g,1,none⟩ (.slice A' (n-k) (c-k))):=(Below.refl B w).setCell (p:=⟨g,1,none⟩) hg _;refine⟨⟨h.blk.put 1 _,hg,by omega,by have:=h.few;omega,hr.below hb,λhp ad e=>?_,h.dt.below hb h.lt,h.lt,h.nd,⟨h.room.1,h.room.2.1,h.room.2.2.1,by simp[World.setCell];exact h.room.2.2.2⟩,h.out_.grown (grown_setCell (World.grownBy.refl w (some g)) 1 _) (.inr λe=>h.ne g e rfl),h.ne,h.env.below hb h.room.1⟩,Bar.of hb _⟩;subst hA;rw[if_neg (by omega)]at e;cases A with
 |none=>cases e
 |some a0=>
  injection e with e
  have:=h.far (by omega) a0 rfl;rw[<-e,add_block];exact this
end
theorem textP_len2 {l s:List UInt8} {r:List UInt8} (h:Hk.textP l=some (s,r)):∃at_,at_+r.length=l.length/\l.drop at_=r:=by
 unfold Hk.textP at h;cases hi:Hk.intP 7 l with
 |none=>rw[hi]at h;cases h
 |some p=>
  obtain⟨i,q⟩:=p;obtain⟨a,h1,h2,_⟩:=intP_len2 hi;rw[hi]at h;simp only at h;have key:i<=q.length->∃at_,at_+(q.drop i).length=l.length/\l.drop at_=q.drop i:=λhl=>
   ⟨a+i,by rw[List.length_drop];omega,by rw[<-List.drop_drop,h2]⟩
  split at h
  · cases h
  · split at h
    · cases h
    · rename_i hl
      have k:=key (by omega)
      split at h
      · injection h with h;injection h with _ h;subst h;exact k
      · split at h
        · cases h
        · injection h with h;injection h with _ h;subst h;exact k
theorem _root_.Go.Own.Cx.Bar.ofG {w w':World} {B g:Nat} (h:Bar (λj=>j=g) w.heap.size w w') (hg:B<=g) (hB:B<=w.heap.size) (X:Nat->Prop):Bar X B w w':=
 ⟨h.os,h.tape,h.output,h.size,λj hj _=>h.block j (by omega) (by omega)⟩
def FltPost (B d tb r:Nat) (w:World) (e:Ending) (w':World):Prop:=(∃a,e= .panicked (hflt a))/\(∃t,DT w' d tb r t)/\Bar (TX tb r) B w w'
def NumPost (B g d tb r:Nat) (ov:Value) (out:List Hd.HdrV) (t:Hk.TM) (bits:Nat) (l:List UInt8) (w:World) (e:Ending) (w':World):Prop:=
 (∃i rest A' n' c',Hk.intP bits l=some (i,rest)/\e= .returned (.int .i64 (i:Nat))/\BR w' B g d tb r A' n' c' rest ov out t/\Bar (λj=>j=g) w.heap.size w w')\/(Hk.intP bits l=none/\FltPost B d tb r w e w')
def TxtPost (B g d tb r:Nat) (ov:Value) (out:List Hd.HdrV) (t:Hk.TM) (l:List UInt8) (w:World) (e:Ending) (w':World):Prop:=
 (∃s rest A' n' c',Hk.textP l=some (s,rest)/\e= .returned (.string ⟨s.toArray⟩)/\BR w' B g d tb r A' n' c' rest ov out t/\Bar (λj=>j=g) w.heap.size w w')\/(Hk.textP l=none/\FltPost B d tb r w e w')
theorem bnum_any (w:World) (B g d tb r:Nat) (A:Option Addr) (n c:Nat) (l:List UInt8) (ov:Value) (out:List Hd.HdrV) (t:Hk.TM) (bits:Nat) (h:BR w B g d tb r A n c l ov out t) (h3:bits=4\/bits=5\/bits=6\/bits=7):
 Calls Tryz.prog 238 #[.pointer (some ⟨g,0,none⟩),.int .i64 (bits:Nat)] w (NumPost B g d tb r ov out t bits l w):=by
 have HI:=hid (hint_any bits A n c B l w h3 h.rd_ h.le h.few h.env);have HB:=hid h;have c1:w.cell? ⟨g,1,none⟩=some (.slice A n c):=h.blk.cell 1;have f1:=h.blk.frozen 1;have h8:=h.blk.lt;clear h h3;go_enter Tryz.func238,Tryz.ntmps238;go_wp2_with fail;refine HI.out.mono ?_;rintro e w1 ⟨⟨k,rfl⟩,hp⟩;rcases hp with⟨i,rest,hi,rfl⟩|⟨hi,a,rfl⟩
 · obtain⟨at_,h6,h4,h7⟩:=intP_len2 hi
   have hl:=HB.out.rd_.1;have h5:l.length-rest.length=at_:=by omega
   rw[h5];have hk:at_<=n:=by omega
   obtain⟨A',h0⟩:∃A',(if c=at_ then A else A.map λx=>x.add at_)=A':=⟨_,rfl⟩;have hcut:=run_from (P:=Tryz.prog) byteP A n c at_ hk HB.out.le;have h1:=(HB.out.rd_.drewN k).cut (k:=at_) hk HB.out.le;rw[h0]at hcut h1;have HR:=hid ((HB.out.drewN k).cut hk h1 h0);rw[h4]at HR;have h2:=hid hi;clear h6 h4 h7 h5 hi h0 h1 hk hl;go_wp2_with (first
    |(go_at_call 242
      with_reducible refine Calls.mono (hgive_nil _) ?_
      rintro e w1 ⟨rfl,hw⟩;subst w1)
    |fail)
   go_ret;exact .inl ⟨i,rest,A',_,_,h2.out,rfl,HR.out.1,((Bar.refl (λj=>j=g) w.heap.size w).drewN k).setCell (p:=⟨g,1,none⟩) (.inr rfl) _⟩
 · have h2:=hid hi
   clear hi;go_wp2_with (first
    |(go_at_call 242
      refine Calls.mono (hgive_err a _) ?_;rintro e w1 ⟨rfl,hw⟩;subst w1)
    |fail)
   exact⟨rfl,.inr ⟨h2.out,⟨a,rfl⟩,⟨t,(HB.out.drewN k).dt⟩,Bar.of (bdN (Below.refl B w) k) _⟩⟩
theorem btext_any (w:World) (B g d tb r:Nat) (A:Option Addr) (n c:Nat) (l:List UInt8) (ov:Value) (out:List Hd.HdrV) (t:Hk.TM) (h:BR w B g d tb r A n c l ov out t):
 Calls Tryz.prog 257 #[.pointer (some ⟨g,0,none⟩)] w (TxtPost B g d tb r ov out t l w):=by
 have HI:=hid (htext_any A n c B l w h.rd_ h.room.2.2.2 h.le h.few h.env);have HB:=hid h;have c1:w.cell? ⟨g,1,none⟩=some (.slice A n c):=h.blk.cell 1;have h4:=h.blk.lt;clear h;go_enter Tryz.func257,Tryz.ntmps257;go_wp2_with fail;refine HI.out.mono ?_;rintro e w1 ⟨hb,hp⟩;have h0:=hid (HB.out.below hb);have h7:=hid (Bar.below hb HB.out.room.2.2.2 (TX tb r));have h8:=hid hb;clear hb c1 h4;have c1:w1.cell? ⟨g,1,none⟩=some (.slice A n c):=h0.out.blk.cell 1;have f1:=h0.out.blk.frozen 1;have h4:=h0.out.blk.lt;rcases hp with⟨s,rest,hs,rfl⟩|⟨hs,a,rfl⟩
 · obtain⟨at_,h9,h5⟩:=textP_len2 hs
   have hl:=HB.out.rd_.1;have h6:l.length-rest.length=at_:=by omega
   rw[h6];have hk:at_<=n:=by omega
   obtain⟨A',h1⟩:∃A',(if c=at_ then A else A.map λx=>x.add at_)=A':=⟨_,rfl⟩;have hcut:=run_from (P:=Tryz.prog) byteP A n c at_ hk HB.out.le;have h2:=h0.out.rd_.cut (k:=at_) hk HB.out.le;rw[h1]at hcut h2;have HR:=hid (h0.out.cut hk h2 h1);rw[h5]at HR;have h3:=hid hs;clear h9 h5 h6 hs h1 h2 hk hl;go_wp2_with (first
    |(go_at_call 242
      with_reducible refine Calls.mono (hgive_nil _) ?_
      rintro e w1 ⟨rfl,hw⟩;subst hw)
    |fail)
   go_ret;exact .inl ⟨s,rest,A',_,_,h3.out,rfl,HR.out.1,(Bar.of h8.out (λj=>j=g)).setCell (p:=⟨g,1,none⟩) (.inr rfl) _⟩
 · have h3:=hid hs
   clear hs;go_wp2_with (first
    |(go_at_call 242
      refine Calls.mono (hgive_err a _) ?_;rintro e w1 ⟨rfl,hw⟩;subst hw)
    |fail)
   exact⟨rfl,.inr ⟨h3.out,⟨a,rfl⟩,⟨t,h0.out.dt⟩,h7.out⟩⟩
end Go.Proofs.YtkpppjhbmnfmkaaGreatDoor
end

section
set_option maxHeartbeats 4000000
set_option maxRecDepth 100000
namespace Go.Proofs.YtkpppjhbmnfmkaaGreatDoor
open Lib (hid)
open Go.RowKit Go.Own Go.Own.Cx
attribute [local go_sem] Oper.semAt_some
theorem stat_small:Hk.statL.all (λp=>Nat.ble p.1.length 100&&Nat.ble p.2.length 100)=true:=by kernel_rfl
theorem get_small {t:Hk.TM} {i:Nat} {h:Hd.HdrV} (hs:hszs t.E<=4096) (hg:t.get i=some h):h.name.size<=5000/\h.value.size<=5000:=by
 unfold Hk.TM.get at hg
 split at hg
 · cases hg
 · have hm:=List.mem_of_getElem? hg
   unfold Hk.TM.all at hm;rcases List.mem_append.1 hm with hm|hm
   · obtain⟨p,hp,rfl⟩:=List.mem_map.1 hm
     have:=List.all_eq_true.1 stat_small p hp;simp only[Bool.and_eq_true]at this;have h1:=Nat.le_of_ble_eq_true this.1;have h2:=Nat.le_of_ble_eq_true this.2;refine⟨?_,?_⟩
     · show p.1.toArray.size<=5000
       simp;omega
     · show p.2.toArray.size<=5000
       simp;omega
   · have:=hsize_le (List.mem_reverse.1 hm) hs
     omega
theorem dec_len:∀(bs:List Bool) (c n:Nat) (out:List Nat),Hf.dec c n bs=some out->out.length<=bs.length
 |[],c,n,out,h=>by
  rw[Hf.dec]at h;cases hb:(Nat.blt n 8&&Nat.beq c (2^n-1))<;>rw[hb]at h
  · cases h
  · injection h with h;subst h;simp
 |b::bs,c,n,out,h=>by
  rw[Hf.dec]at h;cases hk:Hf.look (2*c+b.toNat) (n+1)with
  |some s=>
   rw[hk]at h;simp only at h;cases hq:Nat.beq s 256<;>rw[hq]at h
   · simp only[cond_false]at h
     cases hd:Hf.dec 0 0 bs with
     |none=>rw[hd]at h;cases h
     |some o=>
      rw[hd]at h;injection h with h
      subst h;have:=dec_len bs 0 0 o hd;simp;omega
   · cases h
  |none=>
   rw[hk]at h;simp only at h;cases hq:Nat.blt (n+1) 30<;>rw[hq]at h
   · cases h
   · have:=dec_len bs _ _ out h
     simp;omega
theorem textP_small {l s r:List UInt8} (h:Hk.textP l=some (s,r)):s.length<=200000:=by
 unfold Hk.textP at h;cases hi:Hk.intP 7 l with
 |none=>rw[hi]at h;cases h
 |some p=>
  obtain⟨i,q⟩:=p;rw[hi]at h;simp only at h
  split at h
  · cases h
  · split at h
    · cases h
    · split at h
      · injection h with h;injection h with h _;subst h
        rw[List.length_take];omega
      · cases hd:Hk.decH (q.take i)with
        |none=>rw[hd]at h;cases h
        |some o=>
         rw[hd]at h;injection h with h;injection h with h _;subst h
         unfold Hk.decH at hd;cases h0:Hf.dec 0 0 (Hf.unpack (q.take i))with
         |none=>rw[h0]at hd;cases hd
         |some o2=>
          rw[h0]at hd;injection hd with hd
          subst hd;have h1:=dec_len _ _ _ _ h0;rw[unpack_len,List.length_take]at h1;rw[List.length_map];omega
def HedPost (B g d tb r:Nat) (A:Option Addr) (n c:Nat) (l:List UInt8) (ov:Value) (out:List Hd.HdrV) (t:Hk.TM) (i:Nat) (w:World) (e:Ending) (w':World):Prop:=
 (∃h,t.get i=some h/\e= .returned (.agg (hdrC h))/\BR w' B g d tb r A n c l ov out t/\Bar (TX tb r) B w w'/\Below w.heap.size w w')\/(t.get i=none/\FltPost B d tb r w e w')
theorem results_named (tmps:Array Value) (w:World) (g:Nat) (a b c:Value) (ht:tmps[4]?=some (.pointer (some ⟨g,0,none⟩))) (hb:Blk w g 63 #[a,b,c]):
 (results Tryz.f240 tmps).run Tryz.prog w= .ok (.agg #[a,b,c]) w:=by
 have c0:w.cell? ⟨g,0,none⟩=some a:=hb.cell 0;have c1:w.cell? ⟨g,1,none⟩=some b:=hb.cell 1;have c2:w.cell? ⟨g,2,none⟩=some c:=hb.cell 2;simp[results,Tryz.results240,go_sem,ht,c0,c1,c2]
theorem bhead_any (w:World) (B g d tb r:Nat) (A:Option Addr) (n c:Nat) (l:List UInt8) (ov:Value) (out:List Hd.HdrV) (t:Hk.TM) (i:Nat) (h:BR w B g d tb r A n c l ov out t) (hi:i<=1000000000000):
 Calls Tryz.prog 237 #[.pointer (some ⟨g,0,none⟩),.int .i64 (i:Nat)] w (HedPost B g d tb r A n c l ov out t i w):=by
 have HX:=hid (Blk.new w 63 #[.string ⟨#[]⟩,.string ⟨#[]⟩,.bool false]);have h3:=hid ((Below.refl w.heap.size w).alloc (Nat.le_refl _) (.cells #[.string ⟨#[]⟩,.string ⟨#[]⟩,.bool false] 63));have HK:=hid (h.below h3.out);have h4:=hid h.room;have HW:=hid h;have HI:=hid hi;clear h hi;go_enter Tryz.func237,Tryz.ntmps237;go_upto_region 1 with fail;generalize w.alloc (.cells #[.string ⟨#[]⟩,.string ⟨#[]⟩,.bool false] 63)=W0 at*
 have c0:W0.cell? ⟨g,0,none⟩=some (.pointer (some ⟨d,0,none⟩)):=HK.out.blk.cell 0;have d0:W0.cell? ⟨d,0,none⟩=some (.pointer (some ⟨tb,0,none⟩)):=HK.out.dt.dec.cell 0;have HG:=hid (tgetA_any W0 tb r t.E t.most i HK.out.dt.tab HI.out HK.out.env);go_wp2_with fail;refine HG.out.mono ?_;rintro e w1 ⟨h1,hp⟩;have h2:=hid (h3.out.trans (h1.mono h3.out.size));have h8:=hid (HK.out.below h1);have h0:=hid (HX.out.below h1 HX.out.lt);clear h1 c0 d0;have x0:=h0.out.cell 0;have x1:=h0.out.cell 1;have x2:=h0.out.cell 2;have xf:=h0.out.frozen 0;have xf1:=h0.out.frozen 1;have xf2:=h0.out.frozen 2;have xl:=h0.out.lt;have xne:¬w.heap.size=w1.heap.size:=by omega
 have xne':¬w1.heap.size=w.heap.size:=by omega
 simp only[List.getElem?_toArray,List.getElem?_cons_zero,List.getElem?_cons_succ]at x0 x1 x2;rcases hp with⟨h,hg,rfl⟩|⟨hg,h,rfl⟩
 · have h5:=hid hg
   clear hg;obtain⟨hn,hv,hne⟩:=h;simp only[hdrC];have h6:=hid (h8.out.below ((Below.refl w1.heap.size w1).alloc (Nat.le_refl _) (.cells #[.string hn,.string hv,.bool hne] 63)));go_wp2_with fail;have h7:=(below3 h2.out (Nat.le_refl _) (.string hn) (.string hv) (.bool hne)).alloc (below3 h2.out (Nat.le_refl _) (.string hn) (.string hv) (.bool hne)).size (.cells #[.string hn,.string hv,.bool hne] 63);refine bodyPost_ret (results_header _ _ w.heap.size _ _ _ rfl ((Blk3 h0.out rfl _ _ _).alloc _)) rfl (.inl ⟨⟨hn,hv,hne⟩,h5.out,rfl,HW.out.below h7,Bar.below h7 h4.out.2.2.2 _,h7⟩)
 · have h5:=hid hg
   clear hg;obtain⟨hn,hv,hne⟩:=h;simp only[hdrC];have h9:=hid ((Below.refl w1.heap.size w1).alloc (Nat.le_refl _) (.cells #[.string hn,.string hv,.bool hne] 63));have h6:=hid (h8.out.below h9.out);obtain⟨a,ha⟩:=h6.out.env.idx;go_upto_region 3 with fail;go_wp2_with (first
    |(go_at_call 242
      refine Calls.mono (hgive_err a _) ?_;rintro e w5 ⟨rfl,hw⟩;subst w5)
    |fail)
   exact⟨rfl,.inr ⟨h5.out,⟨a,rfl⟩,⟨t,h6.out.dt⟩,(Bar.below h2.out h4.out.2.2.2 _).trans (Bar.below h9.out (Nat.le_trans h4.out.2.2.2 h2.out.size) _)⟩⟩
theorem BR.put {w:World} {B g d tb r n c:Nat} {A:Option Addr} {l:List UInt8} {ov:Value} {out:List Hd.HdrV} {t:Hk.TM} (h:BR w B g d tb r A n c l ov out t) {q:Nat} (hq:B<=q) (hg:g≠q) (ho:∀j,ov.ownBlock=some j->j≠q) (i:Nat) (v:Value):BR (w.setCell ⟨q,i,none⟩ v) B g d tb r A n c l ov out t:=by
 have hb:Below B w (w.setCell ⟨q,i,none⟩ v):=(Below.refl B w).setCell (p:=⟨q,i,none⟩) hq _;exact⟨h.blk.far (p:=⟨q,i,none⟩) hg _,h.hg,h.le,h.few,h.rd_.below hb,h.far,h.dt.below hb h.lt,h.lt,h.nd,⟨h.room.1,h.room.2.1,h.room.2.2.1,by simp[World.setCell];exact h.room.2.2.2⟩,h.out_.grown (grown_setCell (World.grownBy.refl w (some q)) i _) (.inr λe=>ho q e rfl),h.ne,h.env.below hb h.room.1⟩
section
variable {bits i:Nat} {t:Hk.TM} {l rest rest2 s:List UInt8} {h:Hd.HdrV}
theorem nam_t (hi:Hk.intP bits l=some (0,rest)) (hs:Hk.textP rest=some (s,rest2)) (v r2:List UInt8) (hv:Hk.textP rest2=some (v,r2)):Hk.namedP bits t l=some ({Hk.hv [] v with name:=⟨s.toArray⟩},r2):=by
 simp[Hk.namedP,hi,hs,hv,Hk.hv]
theorem nam_t0 (hi:Hk.intP bits l=some (0,rest)) (hs:Hk.textP rest=some (s,rest2)) (hv:Hk.textP rest2=none):Hk.namedP bits t l=none:=by
 simp[Hk.namedP,hi,hs,hv]
theorem nam_t1 (hi:Hk.intP bits l=some (0,rest)) (hs:Hk.textP rest=none):Hk.namedP bits t l=none:=by
 simp[Hk.namedP,hi,hs]
theorem nam_i (hi:Hk.intP bits l=some (i,rest)) (h0:i≠0) (hg:t.get i=some h) (v r2:List UInt8) (hv:Hk.textP rest=some (v,r2)):Hk.namedP bits t l=some ({Hk.hv [] v with name:=h.name},r2):=by
 simp[Hk.namedP,hi,h0,hg,hv,Hk.hv]
theorem nam_i0 (hi:Hk.intP bits l=some (i,rest)) (h0:i≠0) (hg:t.get i=some h) (hv:Hk.textP rest=none):Hk.namedP bits t l=none:=by
 simp[Hk.namedP,hi,h0,hg,hv]
theorem nam_i1 (hi:Hk.intP bits l=some (i,rest)) (h0:i≠0) (hg:t.get i=none):Hk.namedP bits t l=none:=by
 simp[Hk.namedP,hi,h0,hg]
end
theorem field_hdr (a b c:Value) (W:World):(Instr.field 63 (.agg #[a,b,c]) 0).run Tryz.prog W= .ok a W:=by
 kernel_rfl
def NamPost (B g d tb r:Nat) (ov:Value) (out:List Hd.HdrV) (t:Hk.TM) (bits:Nat) (l:List UInt8) (w:World) (e:Ending) (w':World):Prop:=
 (∃h rest A' n' c',Hk.namedP bits t l=some (h,rest)/\e= .returned (.agg (hdrC h))/\BR w' B g d tb r A' n' c' rest ov out t/\Bar (TX tb r) B w w'/\h.name.size<=200000/\h.value.size<=200000)\/(Hk.namedP bits t l=none/\FltPost B d tb r w e w')
theorem FltPost.trans {B d tb r:Nat} {w w1 w2:World} {e:Ending} (h:Bar (TX tb r) B w w1) (k:FltPost B d tb r w1 e w2):FltPost B d tb r w e w2:=⟨k.1,k.2.1,h.trans k.2.2⟩
theorem intP_small {bits:Nat} {l:List UInt8} {i:Nat} {r:List UInt8} (h:Hk.intP bits l=some (i,r)):i<=2147483647\/i<2^bits:=by
 have more:∀(k sh n:Nat) (l:List UInt8) (m:Nat) (r:List UInt8),Hk.intMore k sh n l=some (m,r)->m<=2147483647:=by
  intro k
  induction k with
  |zero=>intro sh n l m r h;simp[Hk.intMore]at h
  |succ k ih=>
   intro sh n l m r h;cases l with
   |nil=>simp[Hk.intMore]at h
   |cons b l=>
    rw[Hk.intMore]at h
    split at h
    · split at h
      · rename_i h1
        injection h with h;injection h with h _;subst h;exact h1
      · cases h
    · exact ih _ _ _ _ _ h
 cases l with
 |nil=>cases h
 |cons b l=>
  rw[Hk.intP]at h
  split at h
  · injection h with h;injection h with h _;subst h
    exact .inr (Nat.mod_lt _ (Nat.pow_pos (by omega)))
  · exact .inl (more _ _ _ _ _ _ h)
theorem bnamed_any (w:World) (B g d tb r:Nat) (A:Option Addr) (n c:Nat) (l:List UInt8) (ov:Value) (out:List Hd.HdrV) (t:Hk.TM) (bits:Nat) (h:BR w B g d tb r A n c l ov out t) (hU:bits=4\/bits=6):
 Calls Tryz.prog 240 #[.pointer (some ⟨g,0,none⟩),.int .i64 (bits:Nat)] w (NamPost B g d tb r ov out t bits l w):=by
 have HX:=hid ((Blk.new w 63 #[.string ⟨#[]⟩,.string ⟨#[]⟩,.bool false]).alloc (.cells #[.string ⟨#[]⟩,.string ⟨#[]⟩,.bool false] 63));have hy:=Blk.new (w.alloc (.cells #[.string ⟨#[]⟩,.string ⟨#[]⟩,.bool false] 63)) 63 #[.string ⟨#[]⟩,.string ⟨#[]⟩,.bool false];simp only[World.size_alloc]at hy;have HY:=hid hy;have hK:=hid (((Below.refl w.heap.size w).alloc (Nat.le_refl _) (.cells #[.string ⟨#[]⟩,.string ⟨#[]⟩,.bool false] 63)).alloc (by simp) (.cells #[.string ⟨#[]⟩,.string ⟨#[]⟩,.bool false] 63));have HK:=hid (h.below hK.out);have hL:=hid h.room;have hV:=hid hU;have H2:=hid (show∀j,ov.ownBlock=some j->j<w.heap.size fromλj e=>(h.out_.lt j e).2);have hW:=hid (And.intro h.hg h.blk.lt);clear h hU hy;go_enter Tryz.func240,Tryz.ntmps240;go_upto_region 2 with fail;generalize (w.alloc (.cells #[.string ⟨#[]⟩,.string ⟨#[]⟩,.bool false] 63)).alloc (.cells #[.string ⟨#[]⟩,.string ⟨#[]⟩,.bool false] 63)=W0 at*
 have H3:=hid (bnum_any W0 B g d tb r A n c l ov out t bits HK.out (by rcases hV.out with h|h<;>simp[h]));go_wp2_with fail;refine H3.out.mono ?_;intro e w1 hp;rcases hp with⟨i,rest,A1,n1,c1,hi,rfl,hX,hH⟩|⟨hi,hf⟩
 · have hY:i<=2147483647:=by
    rcases intP_small hi with h|h
    · exact h
    · rcases hV.out with rfl|rfl<;>(have:(2:Nat)^4=16:=rfl;have:(2:Nat)^6=64:=rfl;omega)
   have hw:=hid hX;have hj:=hid ((Bar.below hK.out hL.out.2.2.2 (TX tb r)).trans (hH.ofG HK.out.hg HK.out.room.2.2.2 _));have h7:w.heap.size≠g:=by have:=hW.out.2;omega
   have ho:w.heap.size+1≠g:=by have:=hW.out.2;omega
   have hI:=hid (hH.blk HX.out HX.out.lt h7);have hJ:=hid (hH.blk HY.out HY.out.lt ho);have HI:=hid hi;have H4:=hid hY;have hA:=hid (And.intro h7 ho);clear hi hX hH hY h7 ho;have h8:=hid (show∀j,ov.ownBlock=some j->j≠w.heap.size/\j≠w.heap.size+1 fromλj e=>by have:=H2.out j e;omega);have HQ:=hid (show B<=w.heap.size/\g≠w.heap.size/\g≠w.heap.size+1 from⟨hL.out.2.2.2,λe=>hA.out.1 e.symm,λe=>hA.out.2 e.symm⟩);have key:∀(w3:World) (nm:ByteArray) (A2:Option Addr) (n2 c2:Nat) (rest2:List UInt8),BR w3 B g d tb r A2 n2 c2 rest2 ov out t->Blk w3 w.heap.size 63 #[.string ⟨#[]⟩,.string ⟨#[]⟩,.bool false]->Blk w3 (w.heap.size+1) 63 #[.string nm,.string ⟨#[]⟩,.bool false]->Bar (TX tb r) B w w3->nm.size<=200000->
    (∀v r2,Hk.textP rest2=some (v,r2)->Hk.namedP bits t l=some ({Hk.hv [] v with name:=nm},r2))->(Hk.textP rest2=none->Hk.namedP bits t l=none)->
    Calls Tryz.prog 257 #[.pointer (some ⟨g,0,none⟩)] w3 (λe w4=>(∃v A3 n3 c3 rest3,e= .returned (.string ⟨v.toArray⟩)/\BR w4 B g d tb r A3 n3 c3 rest3 ov out t/\Blk w4 w.heap.size 63 #[.string ⟨#[]⟩,.string ⟨#[]⟩,.bool false]/\Blk w4 (w.heap.size+1) 63 #[.string nm,.string ⟨#[]⟩,.bool false]/\Bar (TX tb r) B w w4/\Hk.namedP bits t l=some ({Hk.hv [] v with name:=nm},rest3)/\v.length<=200000)\/(Hk.namedP bits t l=none/\FltPost B d tb r w e w4)):=by
    intro w3 nm A2 n2 c2 rest2 hk hx hy hb hsz h1 h2;refine(btext_any w3 B g d tb r A2 n2 c2 rest2 ov out t hk).mono ?_;intro e w4 hp;rcases hp with⟨v,rest3,A3,n3,c3,hs,rfl,hl,h9⟩|⟨hs,hf⟩
    · exact .inl ⟨v,A3,n3,c3,rest3,rfl,hl,h9.blk hx hx.lt hA.out.1,h9.blk hy hy.lt hA.out.2,hb.trans (h9.ofG hk.hg hk.room.2.2.2 _),h1 v rest3 hs,textP_small hs⟩
    · exact .inr ⟨h2 hs,hf.trans hb⟩
   have hG:=hid key;clear key;rcases Nat.eq_zero_or_pos i with h0|h0
   · subst h0
     have HT:=hid (btext_any w1 B g d tb r A1 n1 c1 rest ov out t hw.out);go_wp2_with fail;refine HT.out.mono ?_;intro e w2 hp;rcases hp with⟨s,rest2,A2,n2,c2,hs,rfl,hC,hc⟩|⟨hs,hf⟩
     · have hM:=hid hC
       have hq:=hid (hj.out.trans (hc.ofG HK.out.hg hw.out.room.2.2.2 _));have hN:=hid (hc.blk hI.out hI.out.lt hA.out.1);have hd:=hid (hc.blk hJ.out hJ.out.lt hA.out.2);have HS:=hid hs;clear hs hC hc;have y0:=hd.out.cell 0;have yf:=hd.out.frozen 0;have yl:=hd.out.lt;simp only[List.getElem?_toArray,List.getElem?_cons_zero,List.getElem?_cons_succ]at y0;go_upto_region 6 with fail;have hm:=hd.out.put 0 (.string ⟨s.toArray⟩);simp only[List.setIfInBounds_toArray,List.set_cons_zero,List.set_cons_succ]at hm;have HC:=hid (hG.out _ ⟨s.toArray⟩ A2 n2 c2 rest2 (hM.out.put (by have:=HQ.out.1;omega) HQ.out.2.2 (λj e=>(h8.out j e).2) 0 (.string ⟨s.toArray⟩)) (hN.out.far (p:=⟨w.heap.size+1,0,none⟩) (by simp) _) hm (hq.out.setCell (p:=⟨w.heap.size+1,0,none⟩) (.inl (by have:=HQ.out.1;simp;omega)) _)
        (by have:=textP_small HS.out;show s.toArray.size<=_;simpa using this)
        (nam_t HI.out HS.out) (nam_t0 HI.out HS.out))
       obtain⟨nm,hO⟩:∃nm:ByteArray,⟨s.toArray⟩=nm:=⟨_,rfl⟩;rw[hO]at HC ⊢;have ht:=hid (show nm.size<=200000 by rw[<-hO];have:=textP_small HS.out;show s.toArray.size<=_;simpa using this);clear hm y0 yf yl hO;go_wp2_with fail;refine HC.out.mono ?_;intro e w4 hp;rcases hp with⟨v,A3,n3,c3,rest3,rfl,hl,hD,hE,h9,h6,hF⟩|⟨h6,hf⟩
       · have hP:=hid hl
         have hQ:=hid hD;have h5:=hid hE;have hR:=hid h9;have HN:=hid (And.intro h6 hF);clear hl hD hE h9 h6 hF;have y0:=h5.out.cell 0;have y1:=h5.out.cell 1;have y2:=h5.out.cell 2;have yf1:=h5.out.frozen 1;have yl:=h5.out.lt;simp only[List.getElem?_toArray,List.getElem?_cons_zero,List.getElem?_cons_succ]at y0 y1 y2;go_upto_region 7 with fail;have hn:=h5.out.put 1 (.string ⟨v.toArray⟩);simp only[List.setIfInBounds_toArray,List.set_cons_zero,List.set_cons_succ]at hn;have he:=hid hn;have h3:=hid (hQ.out.far (p:=⟨w.heap.size+1,1,none⟩) (by simp) (.string ⟨v.toArray⟩));have hS:=hid (hR.out.setCell (p:=⟨w.heap.size+1,1,none⟩) (.inl (by have:=HQ.out.1;simp;omega)) (.string ⟨v.toArray⟩));have hT:=hid (hP.out.put (q:=w.heap.size+1) (by have:=HQ.out.1;omega) HQ.out.2.2 (λj e=>(h8.out j e).2) 1 (.string ⟨v.toArray⟩));clear y0 y1 y2 yf1 yl hn;generalize w4.setCell ⟨w.heap.size+1,1,none⟩ (.string ⟨v.toArray⟩)=W5 at*
         have y0:=he.out.cell 0;have y1:=he.out.cell 1;have y2:=he.out.cell 2;have x0:=h3.out.cell 0;have x1:=h3.out.cell 1;have x2:=h3.out.cell 2;have xf:=h3.out.frozen 0;have xf1:=h3.out.frozen 1;have xf2:=h3.out.frozen 2;have xl:=h3.out.lt;have yl:=he.out.lt;simp only[List.getElem?_toArray,List.getElem?_cons_zero,List.getElem?_cons_succ]at x0 x1 x2 y0 y1 y2;go_wp2_with fail;have k1:=hT.out.put (q:=w.heap.size) HQ.out.1 HQ.out.2.1 (λj e=>(h8.out j e).1) 0 (.string nm);have k2:=k1.put (q:=w.heap.size) HQ.out.1 HQ.out.2.1 (λj e=>(h8.out j e).1) 1 (.string ⟨v.toArray⟩);have k3:=k2.put (q:=w.heap.size) HQ.out.1 HQ.out.2.1 (λj e=>(h8.out j e).1) 2 (.bool false);have b1:=hS.out.setCell (p:=⟨w.heap.size,0,none⟩) (.inl HQ.out.1) (.string nm);have b2:=b1.setCell (p:=⟨w.heap.size,1,none⟩) (.inl HQ.out.1) (.string ⟨v.toArray⟩);have b3:=b2.setCell (p:=⟨w.heap.size,2,none⟩) (.inl HQ.out.1) (.bool false);refine bodyPost_ret (results_named _ _ w.heap.size _ _ _ rfl (Blk3 h3.out rfl _ _ _)) rfl (.inl ⟨_,rest3,A3,n3,c3,HN.out.1,rfl,k3,b3,ht.out,?_⟩);have:=HN.out.2;show v.toArray.size<=200000
         simpa using this
       · obtain⟨⟨a,rfl⟩,h4⟩:=hf
         have HF:=hid h4;have HN:=hid h6;clear h6 h4;go_wp2_with fail;exact⟨rfl,.inr ⟨HN.out,⟨a,rfl⟩,HF.out⟩⟩
     · obtain⟨⟨a,rfl⟩,h4⟩:=hf
       have HF:=hid h4;have HN:=hid (nam_t1 (t:=t) HI.out hs);clear hs h4;go_wp2_with fail;exact⟨rfl,.inr ⟨HN.out,⟨a,rfl⟩,HF.out.1,hj.out.trans HF.out.2⟩⟩
   · have hne:i≠0:=by omega
     have H7:(0:Int)<(i:Int):=by omega
     have HT:=hid (bhead_any w1 B g d tb r A1 n1 c1 rest ov out t i hw.out (by have:=H4.out;omega));have hu:=hid hne;have H1:0<i:=h0;clear hne h0;go_wp2_with fail;refine HT.out.mono ?_;intro e w2 hp;rcases hp with⟨hh,hg,rfl,hC,_,hc⟩|⟨hg,hf⟩
     · have hM:=hid hC
       have hq:=hid (hj.out.trans (Bar.below hc hw.out.room.2.2.2 _));have hN:=hid (hI.out.below hc hI.out.lt);have hd:=hid (hJ.out.below hc hJ.out.lt);have hZ:=hid hg;have H0:=hid (get_small (Nat.le_trans hw.out.dt.sz hw.out.dt.mo) hg);clear hg hC hc;have y0:=hd.out.cell 0;have yf:=hd.out.frozen 0;have yl:=hd.out.lt;simp only[List.getElem?_toArray,List.getElem?_cons_zero,List.getElem?_cons_succ]at y0;obtain⟨nm,H5,h7⟩:=hh;simp only[hdrC];have H8:=field_hdr (.string nm) (.string H5) (.bool h7);go_upto_region 6 with fail;have hm:=hd.out.put 0 (.string nm);simp only[List.setIfInBounds_toArray,List.set_cons_zero,List.set_cons_succ]at hm;have HC:=hid (hG.out _ nm A1 n1 c1 rest (hM.out.put (by have:=HQ.out.1;omega) HQ.out.2.2 (λj e=>(h8.out j e).2) 0 (.string nm)) (hN.out.far (p:=⟨w.heap.size+1,0,none⟩) (by simp) _) hm (hq.out.setCell (p:=⟨w.heap.size+1,0,none⟩) (.inl (by have:=HQ.out.1;simp;omega)) _)
        (Nat.le_trans H0.out.1 (by omega))
        (nam_i HI.out hu.out hZ.out) (nam_i0 HI.out hu.out hZ.out))
       have ht:=hid (show nm.size<=200000 from Nat.le_trans H0.out.1 (by omega));clear hm y0 yf yl;go_wp2_with fail;refine HC.out.mono ?_;intro e w4 hp;rcases hp with⟨v,A3,n3,c3,rest3,rfl,hl,hD,hE,h9,h6,hF⟩|⟨h6,hf⟩
       · have hP:=hid hl
         have hQ:=hid hD;have h5:=hid hE;have hR:=hid h9;have HN:=hid (And.intro h6 hF);clear hl hD hE h9 h6 hF;have y0:=h5.out.cell 0;have y1:=h5.out.cell 1;have y2:=h5.out.cell 2;have yf1:=h5.out.frozen 1;have yl:=h5.out.lt;simp only[List.getElem?_toArray,List.getElem?_cons_zero,List.getElem?_cons_succ]at y0 y1 y2;go_upto_region 7 with fail;have hn:=h5.out.put 1 (.string ⟨v.toArray⟩);simp only[List.setIfInBounds_toArray,List.set_cons_zero,List.set_cons_succ]at hn;have he:=hid hn;have h3:=hid (hQ.out.far (p:=⟨w.heap.size+1,1,none⟩) (by simp) (.string ⟨v.toArray⟩));have hS:=hid (hR.out.setCell (p:=⟨w.heap.size+1,1,none⟩) (.inl (by have:=HQ.out.1;simp;omega)) (.string ⟨v.toArray⟩));have hT:=hid (hP.out.put (q:=w.heap.size+1) (by have:=HQ.out.1;omega) HQ.out.2.2 (λj e=>(h8.out j e).2) 1 (.string ⟨v.toArray⟩));clear y0 y1 y2 yf1 yl hn;generalize w4.setCell ⟨w.heap.size+1,1,none⟩ (.string ⟨v.toArray⟩)=W5 at*
         have y0:=he.out.cell 0;have y1:=he.out.cell 1;have y2:=he.out.cell 2;have x0:=h3.out.cell 0;have x1:=h3.out.cell 1;have x2:=h3.out.cell 2;have xf:=h3.out.frozen 0;have xf1:=h3.out.frozen 1;have xf2:=h3.out.frozen 2;have xl:=h3.out.lt;have yl:=he.out.lt;simp only[List.getElem?_toArray,List.getElem?_cons_zero,List.getElem?_cons_succ]at x0 x1 x2 y0 y1 y2;go_wp2_with fail;have k1:=hT.out.put (q:=w.heap.size) HQ.out.1 HQ.out.2.1 (λj e=>(h8.out j e).1) 0 (.string nm);have k2:=k1.put (q:=w.heap.size) HQ.out.1 HQ.out.2.1 (λj e=>(h8.out j e).1) 1 (.string ⟨v.toArray⟩);have k3:=k2.put (q:=w.heap.size) HQ.out.1 HQ.out.2.1 (λj e=>(h8.out j e).1) 2 (.bool false);have b1:=hS.out.setCell (p:=⟨w.heap.size,0,none⟩) (.inl HQ.out.1) (.string nm);have b2:=b1.setCell (p:=⟨w.heap.size,1,none⟩) (.inl HQ.out.1) (.string ⟨v.toArray⟩);have b3:=b2.setCell (p:=⟨w.heap.size,2,none⟩) (.inl HQ.out.1) (.bool false);refine bodyPost_ret (results_named _ _ w.heap.size _ _ _ rfl (Blk3 h3.out rfl _ _ _)) rfl (.inl ⟨_,rest3,A3,n3,c3,HN.out.1,rfl,k3,b3,ht.out,?_⟩);have:=HN.out.2;show v.toArray.size<=200000
         simpa using this
       · obtain⟨⟨a,rfl⟩,h4⟩:=hf
         have HF:=hid h4;have HN:=hid h6;clear h6 h4;go_wp2_with fail;exact⟨rfl,.inr ⟨HN.out,⟨a,rfl⟩,HF.out⟩⟩
     · obtain⟨⟨a,rfl⟩,h4⟩:=hf
       have HF:=hid h4;have HN:=hid (nam_i1 (t:=t) HI.out hu.out hg);clear hg h4;go_wp2_with fail;exact⟨rfl,.inr ⟨HN.out,⟨a,rfl⟩,HF.out.1,hj.out.trans HF.out.2⟩⟩
 · obtain⟨⟨a,rfl⟩,h4⟩:=hf
   have HF:=hid h4;have HN:=hid (show Hk.namedP bits t l=none by rw[Hk.namedP,hi]);clear hi h4;go_wp2_with fail;exact⟨rfl,.inr ⟨HN.out,⟨a,rfl⟩,HF.out.1,(Bar.below hK.out hL.out.2.2.2 _).trans HF.out.2⟩⟩
end Go.Proofs.YtkpppjhbmnfmkaaGreatDoor
end

section
set_option maxHeartbeats 8000000
set_option maxRecDepth 100000
namespace Go.Proofs.YtkpppjhbmnfmkaaGreatDoor
open Lib (hid)
open Go.RowKit Go.Own Go.Own.Cx Go.Own.Fr
attribute [local go_sem] Oper.semAt_some
theorem alls_len (E:List Hd.HdrV) (mo:Nat):(Hk.TM.all ⟨E,mo⟩).length=61+E.length:=by
 rw[Hk.TM.all,List.length_append,statH_len,List.length_reverse]
structure FdA (w:World) (E:List Hd.HdrV) (mo:Nat) (n v:ByteArray) (j k:Nat) (wr:World):Prop where
 j1:1<=j
 j2:j<=62+E.length
 k2:k<=62+E.length
 eq:Hk.findGo n v ((Hk.TM.all ⟨E,mo⟩).drop (j-1)) j k=Hk.TM.find ⟨E,mo⟩ n v
 b:Below w.heap.size w wr
theorem FdA.at_ {w wr:World} {E:List Hd.HdrV} {mo:Nat} {n v:ByteArray} {j k:Nat} (h:FdA w E mo n v j k wr) (hj:j<=61+E.length):
 ∃x,Hk.TM.get ⟨E,mo⟩ j=some x/\Hk.TM.find ⟨E,mo⟩ n v=if x.name=n then(if x.value=v then(j,true)else Hk.findGo n v ((Hk.TM.all ⟨E,mo⟩).drop j) (j+1) (if k=0 then j else k))else Hk.findGo n v ((Hk.TM.all ⟨E,mo⟩).drop j) (j+1) k:=by
 have h1:=h.j1;have hl:=alls_len E mo;have h0:j-1<(Hk.TM.all ⟨E,mo⟩).length:=by omega
 refine⟨(Hk.TM.all ⟨E,mo⟩)[j-1],by rw[Hk.TM.get,if_neg (by omega)];exact List.getElem?_eq_getElem h0,?_⟩;have h2:=h.eq;rw[List.drop_eq_getElem_cons h0,show j-1+1=j by omega,Hk.findGo]at h2;exact h2.symm
theorem FdA.end_ {w wr:World} {E:List Hd.HdrV} {mo:Nat} {n v:ByteArray} {j k:Nat} (h:FdA w E mo n v j k wr) (hj:¬j<=61+E.length):Hk.TM.find ⟨E,mo⟩ n v=(k,false):=by
 have hl:=alls_len E mo;have h2:=h.eq;rw[List.drop_eq_nil_of_le (by omega),Hk.findGo]at h2;exact h2.symm
def FdAI (w:World) (E:List Hd.HdrV) (mo:Nat) (n v:ByteArray) (nv iv:Value) (wr:World):Prop:=∃j k:Nat,iv= .int .i64 (j:Nat)/\nv= .int .i64 (k:Nat)/\FdA w E mo n v j k wr
def FindPost (t:Hk.TM) (n v:ByteArray) (w:World) (e:Ending) (w':World):Prop:=e= .returned (.tuple #[.int .i64 ((t.find n v).1:Nat),.bool (t.find n v).2])/\Below w.heap.size w w'
theorem txt_ne {a b:ByteArray} (h:a≠b):(a.toList==b.toList)=false:=by
 rw[ByteArray.toList_eq,ByteArray.toList_eq];simp only[beq_eq_false_iff_ne,ne_eq]
 exactλe=>h (Go.WideShapes.bytes_inj e)
theorem fd_w (j:Nat) (h:j<=1000000):wrap64 ((j:Int)+1)=((j+1:Nat):Int):=by unfold wrap64;omega
theorem fd_61 (n:Nat) (h:n<=1000):wrap64 (61+(n:Int))=((61+n:Nat):Int)/\IntKind.i64.wrap (61+(n:Int))=((61+n:Nat):Int):=⟨by unfold wrap64;omega,by rw[IntKind.wrap_i64];omega⟩
theorem find_any (w:World) (g r:Nat) (E:List Hd.HdrV) (mo:Nat) (n v:ByteArray) (ht:TabR w g r E mo) (hE:HpE w):
 Calls Tryz.prog 137 #[.pointer (some ⟨g,0,none⟩),.string n,.string v] w (FindPost ⟨E,mo⟩ n v w):=by
 have hc:=ht.lt;have ho:E.length*32<=hszs E:=Hk.hz_ge E;have HT:=hid (λW (hb:Below w.heap.size w W)=>ht.below hb hc.1 hc.2);have h6:E.length<=128:=by obtain⟨old,cs,_,_,_,h4⟩:=ht;omega
 have hC:=hid (λW (hb:Below w.heap.size w W)=>hE.keep hb.size (λg hg=>hb.block g (Nat.lt_of_lt_of_le hg hE.room)));have hq:=hid (λW (hb:Below w.heap.size w W) (j:Nat) (hj:j<=1000000)=>tgetA_any W g r E mo j (HT.out W hb) (by omega) (hC.out W hb));have HL:=hid h6;have HG:=hid (λW (hb:Below w.heap.size w W)=>(show W.cell? ⟨g,2,none⟩=some (.int .i64 (E.length:Nat))by
  obtain⟨old,cs,h1,_⟩:=HT.out W hb;exact h1.cell 2))
 have hd:=fd_61 E.length (by omega);have hD:=hd.1;have hF:=hd.2;clear hd hc ho h6 ht hE;obtain⟨len,h3⟩:∃len,E.length=len:=⟨_,rfl⟩;rw[h3]at hD hF HG;have hh:=hid h3;clear h3;go_enter Tryz.func137,Tryz.ntmps137;go_upto_region 3 with fail;go_loopw [8,9] (λnv iv wr=>Hid (FdAI w E mo n v nv iv wr)) (λ_ iv _=>62+len-(intOf iv).toNat)
 case atStart=>exact⟨1,0,rfl,rfl,Nat.le_refl _,by omega,by omega,rfl,Below.refl _ _⟩
 case round=>
  obtain⟨j,k,rfl,rfl,hf⟩:=hrel;have c2:=HG.out wr hf.b;have hJ:j<=190:=by have:=hf.j2;have:=HL.out;omega
  have HB:=hid hf.b;by_cases h3:j<=61+len
  · have hi:(j:Int)<=((61+len:Nat):Int):=by omega
    obtain⟨x,hu,hw⟩:=hf.at_ (by rw[hh.out];exact h3);have hl:=hid hw;have hA:=hid hu;have hG:=hid (hq.out wr hf.b j (by omega));have HN:=hid (λk' (hk:k'<=62+E.length) (W:World) (hb:Below w.heap.size w W) (he:Hk.findGo n v ((Hk.TM.all ⟨E,mo⟩).drop j) (j+1) k'=Hk.TM.find ⟨E,mo⟩ n v)=>
     (show FdAI w E mo n v (.int .i64 (k':Nat)) (.int .i64 ((j+1:Nat):Int)) W from⟨j+1,k',rfl,rfl,⟨by omega,by rw[hh.out];omega,hk,he,hb⟩⟩))
    have hm:=hid (show k<=62+E.length/\j<=62+E.length from⟨hf.k2,hf.j2⟩);have ew:=fd_w j (by omega);have hn:=hid (show 62+len-(j+1)<62+len-j by omega);clear hf h3 hu hw;obtain⟨xn,xv,xb⟩:=x;have h7:∀(Q:Ending->World->Prop),(∀w1,Below w.heap.size w w1->Q (.returned (.tuple #[.agg #[.string xn,.string xv,.bool xb],.bool true])) w1)->Calls Tryz.prog 170 #[.pointer (some ⟨g,0,none⟩),.int .i64 (j:Nat)] wr Q:=λQ hQ=>by
     refine hG.out.mono ?_;rintro e w1 ⟨h0,hH⟩;rcases hH with⟨h,h1,rfl⟩|⟨h1,_⟩
     · rw[hA.out]at h1
       injection h1 with h1
       subst h1;exact hQ w1 (HB.out.trans (h0.mono HB.out.size))
     · rw[hA.out]at h1;cases h1
    have h8:=hid h7;clear h7;by_cases h5:xn=n
    · by_cases hv:xv=v
      · have HR:=hid (show Hk.TM.find ⟨E,mo⟩ n v=(j,true)by rw[hl.out,if_pos h5,if_pos hv])
        subst h5 hv;go_wp2_with (first
         |(go_at_call 170
           refine h8.out _ ?_;intro w1 h0;have h2:=hid h0;clear h0)
         |fail)
        go_ret2;refine⟨by rw[HR.out];rfl,h2.out.alloc h2.out.size _⟩
      · have HR:=hid (show Hk.findGo n v ((Hk.TM.all ⟨E,mo⟩).drop j) (j+1) (if k=0 then j else k)=Hk.TM.find ⟨E,mo⟩ n v by rw[hl.out,if_pos h5,if_neg hv])
        have q1:=txt_ne hv;subst h5;rcases Nat.eq_zero_or_pos k with h9|h9
        · subst h9
          go_wp2_with (first
           |(go_at_call 170
             refine h8.out _ ?_;intro w1 h0;have h2:=hid h0;clear h0)
           |fail)
          exact⟨HN.out j hm.out.2 _ (h2.out.alloc h2.out.size _) HR.out,hn.out⟩
        · have hK:((k:Int)=0)=False:=by simp;omega
          have hL:¬k=0:=by omega
          have hM:((k:Int)==0)=false:=by simp;omega
          have hN:¬(k:Int)=0:=by omega
          rw[if_neg (by omega)]at HR;have hI:=hid h9;clear h9;go_wp2_with (first
           |(go_at_call 170
             refine h8.out _ ?_;intro w1 h0;have h2:=hid h0;clear h0)
           |fail)
          all_goals first|exact⟨HN.out k hm.out.1 _ (h2.out.alloc h2.out.size _) HR.out,hn.out⟩|(exfalso;have:=hI.out;omega)
    · have HR:=hid (show Hk.findGo n v ((Hk.TM.all ⟨E,mo⟩).drop j) (j+1) k=Hk.TM.find ⟨E,mo⟩ n v by rw[hl.out,if_neg h5])
      have q1:=txt_ne h5;go_wp2_with (first
       |(go_at_call 170
         refine h8.out _ ?_;intro w1 h0;have h2:=hid h0;clear h0)
       |fail)
      exact⟨HN.out k hm.out.1 _ (h2.out.alloc h2.out.size _) HR.out,hn.out⟩
  · have hi:¬(j:Int)<=((61+len:Nat):Int):=by omega
    have HR:=hid (hf.end_ (by rw[hh.out];exact h3));clear hf h3;go_wp2_with fail;go_ret2;exact⟨by rw[HR.out];rfl,HB.out⟩
end Go.Proofs.YtkpppjhbmnfmkaaGreatDoor
end
