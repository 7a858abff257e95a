/-
  
  
  
  
-/
import Derived.Test.YtkpppjhbmnfmkaaGreatDoorJbb
import Derived.Test.YtkpppjhbmnfmkaaGreatDoorJao
import Derived.Maps.RangeWalk
import Derived.RangeFuncBox
set_option linter.unusedSimpArgs false
set_option linter.unusedVariables false
section
set_option maxHeartbeats 4000000
set_option maxRecDepth 100000
namespace Go.Proofs.YtkpppjhbmnfmkaaGreatDoor
open Go.RowKit Go.Own Go.Own.Im Go.Own.Cx Go.Own.Fr
attribute [local go_sem] Oper.semAt_some
theorem away_srv (w:World) (ow:Nat->Tg) (b g:Nat) (M:Cv) (L:Lay) (i:Inf) (sv dv sz:Value) (h:CN w ow b M L) (hg:Blk w g 26 #[.pointer (some ⟨b,0,none⟩)]) (he:ow g= .no) (h2:M.side=2) (hs:(M.strs.map (·.id)).Pairwise (·<·)) (hl:M.strs.length<=1000000) (hid:∀s∈M.strs,s.id<=2147483647) (hn:M.evs.length<=900000):
 Calls Tryz.prog 157 #[.agg (infC i sv dv),sz,.pointer (some ⟨g,0,none⟩)] w (CPost w ow b {M with evs:=M.evs++[{kind:=6,last:=i.last,code:=i.code}],gone:=true} (.tuple #[])):=by
 have HX:=Lib.hid (Blk.new w 91 (infC i sv dv));have h8:=Lib.hid ((Below.refl w.heap.size w).alloc (Nat.le_refl _) (.cells (infC i sv dv) 91));have hq:=Lib.hid (h.below h8.out);have h9:=Lib.hid (hg.below h8.out hg.lt);have hf:=Lib.hid he;have HS:=Lib.hid hs;have ht:=Lib.hid h2;have hh:=Lib.hid hl;have HT:=tell_any _ ow b M L {kind:=6,last:=i.last,code:=i.code} hq.out (evOk_plain _ ow 6 0 i.code i.last false) hn;rw[evC_plain]at HT;have HT:=Lib.hid HT;clear h hg he hs hn h2 hl hid;go_enter Tryz.func157,Tryz.ntmps157;go_upto_region 1 with fail;generalize w.alloc (.cells (infC i sv dv) 91)=W0 at*
 have g0:W0.cell? ⟨g,0,none⟩=some (.pointer (some ⟨b,0,none⟩)):=h9.out.cell 0;have x13:W0.cell? ⟨w.heap.size,13,none⟩=some (.int .i64 (i.last:Nat)):=HX.out.cell 13;have x12:W0.cell? ⟨w.heap.size,12,none⟩=some (.int .i64 (i.code:Nat)):=HX.out.cell 12;go_wp2_with fail;refine HT.out.mono ?_;intro e w1 hp;obtain rfl:=hp.ret;obtain⟨ow1,L1,_,h4,h5⟩:=hp;have hu:=Lib.hid h4;have hA:=Lib.hid ((Fr.below h8.out ow).trans h5);have hi:=Lib.hid (h5.blk h9.out hf.out);have hc:=Lib.hid (show ow1 g= .no from h5.no g h9.out.lt hf.out);have g1:w1.cell? ⟨g,0,none⟩=some (.pointer (some ⟨b,0,none⟩)):=hi.out.cell 0;have c18:w1.cell? ⟨b,18,none⟩=some (.bool M.gone):=h4.blk.cell 18;have f18:=h4.blk.frozen 18;clear g0 x13 x12 h4 h5;go_upto_region 3 with fail;have h6:=hu.out.gone1;have hj:=Lib.hid h6.1;have hC:=Lib.hid (hA.out.trans h6.2);have hb:=Lib.hid (h6.2.blk hi.out hc.out);clear h6 g1 c18 f18;generalize w1.setCell ⟨b,18,none⟩ (.bool true)=W2 at*
 have g2:W2.cell? ⟨g,0,none⟩=some (.pointer (some ⟨b,0,none⟩)):=hb.out.cell 0;have HI:=Lib.hid (ids_any W2 ow1 b _ L1 hj.out HS.out hh.out);go_wp2_with fail;refine HI.out.mono ?_;rintro e w3 ⟨v,rfl,h3,h7⟩;have hd:=Lib.hid h3;have hv:∃A c,v= .slice A M.strs.length c/\M.strs.length<=c:=by
  rcases h3.2 with⟨rfl,h0⟩|⟨g,cap,cur,rfl,_,_,h1,_⟩
  · exact⟨none,0,by rw[show M.strs.length=0 from h0],by rw[show M.strs.length=0 from h0];exact Nat.le_refl _⟩
  · exact⟨_,_,rfl,h1⟩
 obtain⟨A3,c3,rfl,_⟩:=hv;have hm:=Lib.hid (hj.out.below h7);have hD:=Lib.hid (hC.out.trans (Fr.below h7 ow1));have g3:w3.cell? ⟨g,0,none⟩=some (.pointer (some ⟨b,0,none⟩)):=(hb.out.below h7 hb.out.lt).cell 0;have c0:w3.cell? ⟨b,0,none⟩=some (.int .i64 (M.side:Nat)):=hm.out.blk.cell 0;rw[ht.out]at c0;have hF:maxLen=9223372036854775807:=rfl;clear h3 h7 g2;go_upto_region 4 with fail;go_loopw [6,20] (λ_ iv wr=>Hid (wr=w3)/\∃k:Nat,k<=M.strs.length/\iv= .int .i64 (k:Nat)) (λ_ iv _=>M.strs.length-(intOf iv).toNat)
 case atStart=>exact⟨Lib.hid rfl,0,Nat.zero_le _,rfl⟩
 case round=>
  obtain⟨hw,k,hk,rfl⟩:=hrel;have hE:=hw.out;subst hE;by_cases ho:k<M.strs.length
  · obtain⟨s,hs⟩:∃s,M.strs[k]?=some s:=⟨_,List.getElem?_eq_getElem ho⟩
    have hcell:∃g,A3=some ⟨g,0,none⟩/\wr.cell? ⟨g,k,none⟩=some (.int .i64 (s.id:Nat)):=by
     have hr:=hd.out;rcases hr.2 with⟨e,h0⟩|⟨g,cap,cur,e,_⟩
     · exact absurd (show M.strs.length=0 from h0) (by omega)
     · injection e with e1 e2 e3
       subst e1;refine⟨g,rfl,?_⟩;have:=World.ownsRow.cells hr (g:=g) rfl k (.int .i64 (s.id:Nat)) (by simp[hs,encZ]);rw[Addr.add_lit,Nat.zero_add]at this;exact this
    obtain⟨g9,rfl,hcell⟩:=hcell;have HK:=Lib.hid ho;have hG:=hh.out;clear hs;go_wp2;exact⟨⟨(by first|exact Lib.hid trivial|exact Lib.hid rfl),k+1,HK.out,by go_num⟩,by have:=HK.out;simp[intOf];omega⟩
  · have hH:¬((k:Int)<(M.strs.length:Int)):=by omega
    go_wp2;go_end0;exact⟨ow1,L1,rfl,hm.out,hD.out⟩
end Go.Proofs.YtkpppjhbmnfmkaaGreatDoor
end

section
namespace Go.Proofs.YtkpppjhbmnfmkaaGreatDoor
open Go.RowKit Go.Own Go.Own.Im Go.Own.Cx Go.Own.Fr Go.Maps
attribute [local go_sem] Oper.semAt_some
def shI (left:Lit->Bool) (d:Int) (l:List Sv):List Sv:=l.map λs=>if left (il s.id)then s else{s with inw:=s.inw+d}
def shO (left:Lit->Bool) (d:Int) (l:List Sv):List Sv:=l.map λs=>if left (il s.id)then s else{s with outw:=s.outw+d}
theorem il_same (a b:Nat):(il (a:Int)).sameKey (il (b:Int))=decide (a=b):=by
 simp[il,Lit.sameKey];omega
theorem id_one {l:List Sv} (hnd:(l.map (·.id)).Nodup) {x s:Sv} (hx:x∈l) (hs:s∈l) (e:x.id=s.id):x=s:=by
 induction l with
 |nil=>cases hx
 |cons y l ih=>
  rw[List.map_cons,List.nodup_cons]at hnd;rcases List.mem_cons.1 hx with h1|h1
  · rcases List.mem_cons.1 hs with h2|h2
    · exact h1.trans h2.symm
    · exact absurd (List.mem_map.2 ⟨s,h2,by rw[<-h1];exact e.symm⟩) hnd.1
  · rcases List.mem_cons.1 hs with h2|h2
    · exact absurd (List.mem_map.2 ⟨x,h1,by rw[<-h2];exact e⟩) hnd.1
    · exact ih hnd.2 h1 h2
theorem shI_step {l:List Sv} (h0:(l.map (·.id)).Nodup) (left:Lit->Bool) (d:Int) {s:Sv} (hs:s∈l):updS (shI left d l) {s with inw:=s.inw+d}=shI (λz=>left z&& !z.sameKey (il s.id)) d l:=by
 unfold updS shI;rw[List.map_map];refine List.map_congr_left λx hx=>?_;have e0:(if left (il x.id)then x else{x with inw:=x.inw+d}).id=x.id:=by split<;>rfl
 show(if(if left (il x.id)then x else{x with inw:=x.inw+d}).id=s.id then _ else _)=_;rw[e0];simp only[il_same];by_cases h:x.id=s.id
 · have:=id_one h0 hx hs h
   subst this;simp
 · rw[if_neg h,decide_eq_false h]
   simp
theorem shO_step {l:List Sv} (h0:(l.map (·.id)).Nodup) (left:Lit->Bool) (d:Int) {s:Sv} (hs:s∈l):updS (shO left d l) {s with outw:=s.outw+d}=shO (λz=>left z&& !z.sameKey (il s.id)) d l:=by
 unfold updS shO;rw[List.map_map];refine List.map_congr_left λx hx=>?_;have e0:(if left (il x.id)then x else{x with outw:=x.outw+d}).id=x.id:=by split<;>rfl
 show(if(if left (il x.id)then x else{x with outw:=x.outw+d}).id=s.id then _ else _)=_;rw[e0];simp only[il_same];by_cases h:x.id=s.id
 · have:=id_one h0 hx hs h
   subst this;simp
 · rw[if_neg h,decide_eq_false h]
   simp
theorem shI_left {l:List Sv} (left:Lit->Bool) (d:Int) {s:Sv} (hs:s∈l) (h:left (il s.id)=true):s∈shI left d l:=List.mem_map.2 ⟨s,hs,by rw[if_pos h]⟩
theorem shO_left {l:List Sv} (left:Lit->Bool) (d:Int) {s:Sv} (hs:s∈l) (h:left (il s.id)=true):s∈shO left d l:=List.mem_map.2 ⟨s,hs,by rw[if_pos h]⟩
theorem shI_none (left:Lit->Bool) (h:∀k,left k=false) (d:Int) (l:List Sv):shI left d l=l.map λs=>{s with inw:=s.inw+d}:=List.map_congr_left λs _=>by rw[h];rfl
theorem shO_none (left:Lit->Bool) (h:∀k,left k=false) (d:Int) (l:List Sv):shO left d l=l.map λs=>{s with outw:=s.outw+d}:=List.map_congr_left λs _=>by rw[h];rfl
theorem shI_all (left:Lit->Bool) (d:Int) (l:List Sv) (h:∀s∈l,left (il s.id)=true):shI left d l=l:=by
 unfold shI
 conv=>rhs;rw[<-List.map_id l]
 exact List.map_congr_left λs hs=>by rw[if_pos (h s hs)];rfl
theorem shO_all (left:Lit->Bool) (d:Int) (l:List Sv) (h:∀s∈l,left (il s.id)=true):shO left d l=l:=by
 unfold shO
 conv=>rhs;rw[<-List.map_id l]
 exact List.map_congr_left λs hs=>by rw[if_pos (h s hs)];rfl
section
variable {w w' W:World} {ow:Nat->Tg} {b r:Nat} {M:Cv} {L:Lay}
theorem CN.stepped (h:CN w ow b M L) (hg:w.grownBy w' (some r)) (hr:ow r= .no):CN w' ow b M L:=
 h.keep hg.size λg hn h0=>hg.block g h0 λe=>hn (by injection e with e;rw[e];exact hr)
theorem Fr.stepped (h:Fr W ow w ow) (hg:w.grownBy w' (some r)) (hr:W.heap.size<=r):Fr W ow w' ow:=
 ⟨hg.os.trans h.os,hg.tape.trans h.tape,hg.output.trans h.output,Nat.le_trans h.size hg.size,λg h0 hn=>(hg.block g (Nat.lt_of_lt_of_le h0 h.size) λe=>by injection e with e;omega).trans (h.keep g h0 hn),h.no⟩
end
end Go.Proofs.YtkpppjhbmnfmkaaGreatDoor
end

section
set_option maxHeartbeats 4000000
set_option maxRecDepth 100000
namespace Go.Proofs.YtkpppjhbmnfmkaaGreatDoor
open Lib (hid)
open Go.RowKit Go.Own Go.Own.Im Go.Own.Cx Go.Own.Fr Go.Maps
attribute [local go_sem] Oper.semAt_some
theorem settings_ackS (w:World) (ow:Nat->Tg) (b:Nat) (M:Cv) (L:Lay) (i:Inf) (sv dv sz:Value) (h:CN w ow b M L) (ha:i.ack=true) (hE:M.acked=false) (hF:(M.strs.map (·.id)).Nodup) (hw: -2147483647<=M.cw-M.window/\M.cw-M.window<=2147483647) (hG:∀s∈M.strs,-2147483647<=s.inw/\s.inw<=2147483647/\ -2147483647<=s.inw+(M.cw-M.window)/\s.inw+(M.cw-M.window)<=2147483647):
 Calls Tryz.prog 155 #[.pointer (some ⟨b,0,none⟩),.agg (infC i sv dv),sz] w (CPost w ow b {M with acked:=true,window:=M.cw,strs:=M.strs.map λs=>{s with inw:=s.inw+(M.cw-M.window)}} (.tuple #[])):=by
 have HX:=hid (Blk.new w 91 (infC i sv dv));have hH:=hid ((Below.refl w.heap.size w).alloc (Nat.le_refl _) (.cells (infC i sv dv) 91));have ho:=hid (h.below hH.out);have HS:=hid (And.intro ha (And.intro hE (And.intro hF (And.intro hw hG))));have hU:wrap64 (M.cw-M.window)=M.cw-M.window:=by unfold wrap64;omega
 have hV:IntKind.i64.wrap (M.cw-M.window)=M.cw-M.window:=by rw[IntKind.wrap_i64];omega
 clear h ha hE hF hw hG;go_enter Tryz.func155,Tryz.ntmps155;go_upto_region 1 with fail;generalize w.alloc (.cells (infC i sv dv) 91)=W0 at*
 have c5:W0.cell? ⟨w.heap.size,5,none⟩=some (.bool i.ack):=HX.out.cell 5;rw[HS.out.1]at c5;have c13:W0.cell? ⟨b,13,none⟩=some (.bool M.acked):=ho.out.blk.cell 13;rw[HS.out.2.1]at c13;have f13:=ho.out.blk.frozen 13;go_upto_region 5 with fail;have h1:=ho.out.ackedIs;have he:=hid h1.1;have hW:=hid ((Fr.below hH.out ow).trans h1.2);clear h1 c5 c13 f13;generalize W0.setCell ⟨b,13,none⟩ (.bool true)=W1 at*
 have c1:W1.cell? ⟨b,1,none⟩=some (.int .i64 M.cw):=he.out.blk.cell 1;have c10:W1.cell? ⟨b,10,none⟩=some (.int .i64 M.window):=he.out.blk.cell 10;have f10:=he.out.blk.frozen 10;go_quiet (fail);have hX:=hid (he.out.drewN nq);have hY:=hid (hW.out.trans (Fr.drewN W1 ow nq));have c1:(W1.drewN nq).cell? ⟨b,1,none⟩=some (.int .i64 M.cw):=c1;have c10:(W1.drewN nq).cell? ⟨b,10,none⟩=some (.int .i64 M.window):=c10;have f10:(W1.drewN nq).frozen? ⟨b,10,none⟩=false:=f10;generalize W1.drewN nq=W2 at*
 have h3:=hX.out.windowIs M.cw;have hi:=hid h3.1;have hZ:=hid (hY.out.trans h3.2);clear h3;go_upto_region 7 with fail;clear c1 c10 f10;generalize W2.setCell ⟨b,10,none⟩ (.int .i64 M.cw)=W6 at*
 generalize hd:M.cw-M.window=d at*
 obtain⟨D,h0,H0,hsz,hh,h7⟩:=hi.out.p.map;rw[List.length_map]at h0;have hC:=hid h0;have h6:=hid (And.intro hh h7);have c15:W6.cell? ⟨b,15,none⟩=some (.map (some L.mb)):=hi.out.blk.cell 15;have hI:ow W6.heap.size= .no:=hi.out.new _ (Nat.le_refl _);have hJ:L.mb<W6.heap.size:=h0.lt;have hK:=hid (And.intro hI hJ);have hD:W6.heap.size=W6.heap.size:=rfl;clear h0 H0 hsz hh h7 hU hV hI hJ;go_wp2_with (first
  |(with_reducible refine wpList_range_own _ rfl (.tmp 45) 74 rfl 3 93 (Maps.int_keyed Tryz.underlying3) Tryz.underlying74 Rh L.mb _ D rfl hC.out ?_
    intro w7 hL hM hN;have H1:=hid hL;have h5:=hid (And.intro hM hN);clear hL hM hN)
  |fail)
 have h8:∀s∈M.strs,Maps.has D (il s.id)=true:=λs hs=>by
  rw[h6.out.1];exact List.any_eq_true.2 ⟨s.id,List.mem_map.2 ⟨s,hs,rfl⟩,by simp⟩
 have H2:=hid (show CN w7 ow b {M with acked:=true,window:=M.cw,strs:=shI (Maps.has D) d M.strs} L from by
  rw[shI_all _ d M.strs h8];exact hi.out.keep h5.out.1.size λg _ hq=>h5.out.1.block g hq (by simp))
 have H3:=hid (show Fr W6 ow w7 ow from⟨h5.out.1.os,h5.out.1.tape,h5.out.1.output,h5.out.1.size,λg hq _=>h5.out.1.block g hq (by simp),λ_ _ hn=>hn⟩);clear h8 c15 hD;go_loopw [8] (λ_ wr=>Hid (∃(left:Lit->Bool) (cnt:Nat),wr.ranges Tryz.prog 3 Rh L.mb W6.heap.size M.strs.length D left cnt/\CN wr ow b {M with acked:=true,window:=M.cw,strs:=shI left d M.strs} L/\Fr W6 ow wr ow/\∀k:Int,left (il k)=true->Maps.has D (il k)=true)) (λ_ wr=>wr.rangeLeft L.mb W6.heap.size)
 case atStart=>exact hid ⟨_,_,H1.out,H2.out,H3.out,λ_ h=>h⟩
 case round=>
  obtain⟨left,cnt,hr,hc,hf,hl⟩:=hrel.out;have HR:=hid hr;have HC:=hid hc;have HF:=hid hf;have HL:=hid hl;clear hrel hr hc hf hl;go_wp2_with (first
   |(with_reducible refine wpList_next_ranges _ rfl (.tmp 46) rfl 3 (Maps.int_keyed Tryz.underlying3) Rh (Value.int .i64) (λv:Value=>v) (λkey kl h=>by obtain⟨x,rfl,_⟩:=Maps.keyOf_int_inv Tryz.underlying3 h;exact⟨x,rfl⟩) (λv y h=>⟨v,rfl⟩) L.mb W6.heap.size _ D left cnt rfl HR.out ?_ ?_)
   |fail)
  · intro _ h4
    have HN:=hid h4;clear h4;go_wp2;go_end0;refine⟨ow,L,rfl,?_,hZ.out.trans HF.out⟩;have h1:=HC.out;rw[shI_none left HN.out d M.strs,<-hd]at h1;exact h1
  · intro x v kl y1 y2 w8 cnt' hk hj hv h7 hO h9 ht H4 H5
    obtain⟨x',ex,rfl,H7⟩:=Maps.keyOf_int_inv Tryz.underlying3 hk;cases ex;obtain⟨i0,hP,hQ⟩:=List.any_eq_true.1 ((h6.out.1 x).symm.trans (HL.out x hj));obtain⟨s,hs,rfl⟩:=List.mem_map.1 hP;have hx:(s.id:Int)=x:=by simpa using hQ
    subst hx;have H8:v=sptr L s.id:=by
     have h1:=h7 .nil;have h2:=h6.out.2 s.id (List.mem_map.2 ⟨s,hs,rfl⟩) .nil;simp only[Rh,Option.some.injEq,Prod.mk.injEq]at hv;rw[<-hv.1]at h1;have h3:=h1.symm.trans h2;injection h3
    subst H8;have hu:=hid (HC.out.stepped ht hK.out.1);have H9:=hid (Fr.stepped HF.out ht (Nat.le_refl _));have hS:=hu.out.p.strs s (shI_left left d hs hj);have d3:w8.cell? ⟨(L.s s.id).sb,3,none⟩=some (.pointer (some ⟨(L.s s.id).ib,0,none⟩)):=hS.blk.cell 3;have hb:=HS.out.2.2.2.2 s hs;have Ha:=hid (shift_yes w8 (L.s s.id).ib s.inw d hS.inw ⟨hb.1,hb.2.1⟩ HS.out.2.2.2.1 hb.2.2);have hm:=hu.out.sins (shI_left left d hs hj) (s.inw+d);rw[show updS ({M with acked:=true,window:=M.cw,strs:=shI left d M.strs}:Cv).strs {s with inw:=s.inw+d}=_ from shI_step HS.out.2.2.1 left d hs]at hm;have Hb:=hid hm.1;have Hc:=hid (H9.out.trans hm.2);have hA:ow (L.s s.id).ib= .st s.id 1:=hS.ti;have hR:=hid (hO.kept (grownBy_setCell' w8 (L.s s.id).ib (.int .i64 (s.inw+d))) (by intro e;injection e with e;have h1:=hu.out.p.tm;rw[e,hA]at h1;cases h1) (by intro e;injection e with e;have h1:=hK.out.1;rw[e,hA]at h1;cases h1));have He:=hid (show cnt'<wr.rangeLeft L.mb W6.heap.size by rw[HR.out.left_eq];exact h9);have Hg:=hid (λ(k:Int) (hT:(left (il k)&& !(il k).sameKey (.int .i64 (s.id:Int)))=true)=>HL.out k (by rw[Bool.and_eq_true]at hT;exact hT.1));clear hm hA hO ht H4 h9 h7 hv hj hS hb hk H7 hQ hP;unfold sptr at H5 ⊢;go_wp2_with (first
     |(go_at_call 197
       with_reducible refine Calls.mono Ha.out ?_
       rintro e w9 ⟨rfl,rfl⟩)
     |fail)
    exact⟨hid ⟨_,cnt',hR.out,Hb.out,Hc.out,Hg.out⟩,by rw[hR.out.left_eq];exact He.out⟩
end Go.Proofs.YtkpppjhbmnfmkaaGreatDoor
end

section
namespace Go.Proofs.YtkpppjhbmnfmkaaGreatDoor
open Go.RowKit Go.Own Go.Own.Im Go.Own.Cx Go.Own.Fr Go.Maps
def setS (M:Cv) (x:Nat×Nat):Cv:=
 if x.1=1 then{M with hp:=M.hp.sized (min x.2 4096)}else
 if x.1=3 then{M with limit:=x.2}else
 if x.1=4 then{M with others:=x.2,strs:=M.strs.map λs=>{s with outw:=s.outw+((x.2:Int)-M.others)}}else M
def badS (M:Cv) (x:Nat×Nat):Bool:=decide (x.1=4)&&M.strs.any λs=>decide (2147483647<s.outw+((x.2:Int)-M.others))
def setsM:List (Nat×Nat)->Cv->Cv ⊕ Cv
 |[],M=>.inl M
 |x::l,M=>if badS M x=true then .inr {M with others:=x.2}else setsM l (setS M x)
def SetPost (w:World) (ow:Nat->Tg) (b:Nat) (R:Cv ⊕ Cv) (e:Ending) (w':World):Prop:=
 match R with
 | .inl M2=>CPost w ow b {M2 with out:=M2.out++frameB 4 1 0 [],evs:=M2.evs++[{kind:=7}]} (.tuple #[]) e w'
 | .inr M2=>PPostS w ow b (λM'=>∃q,M'={M2 with strs:=q}) 3 0 e w'
structure SetOk (M:Cv):Prop where
 nd:(M.strs.map (·.id)).Nodup
 oth:0<=M.others/\M.others<=2147483647
 outw:∀s∈M.strs,M.others<=s.outw/\s.outw<=2147483647
theorem setS_ok {M:Cv} (h:SetOk M) (x:Nat×Nat) (hb:badS M x=false) (hx:x.1=4->x.2<=2147483647):SetOk (setS M x):=by
 unfold setS
 split
 · exact⟨h.nd,h.oth,h.outw⟩
 split
 · exact⟨h.nd,h.oth,h.outw⟩
 split
 · rename_i h4
   have hx:=hx h4;refine⟨?_,⟨by show(0:Int)<=(x.2:Int);omega,by show(x.2:Int)<=_;omega⟩,?_⟩
   · simp only[List.map_map]
     exact h.nd
   · intro s hs
     obtain⟨s0,h0,rfl⟩:=List.mem_map.1 hs;have h1:=h.outw s0 h0;have h2:¬2147483647<s0.outw+((x.2:Int)-M.others):=λh9=>by
      have:badS M x=true:=by
       unfold badS;rw[h4,Bool.and_eq_true];exact⟨rfl,List.any_eq_true.2 ⟨s0,h0,decide_eq_true h9⟩⟩
      rw[this]at hb;cases hb
     show(x.2:Int)<=s0.outw+((x.2:Int)-M.others)/\s0.outw+((x.2:Int)-M.others)<=2147483647;omega
 · exact⟨h.nd,h.oth,h.outw⟩
theorem setS_keeps (M:Cv) (x:Nat×Nat):(setS M x).out=M.out/\(setS M x).evs=M.evs:=by
 unfold setS
 split
 · exact⟨rfl,rfl⟩
 split
 · exact⟨rfl,rfl⟩
 split<;>exact⟨rfl,rfl⟩
end Go.Proofs.YtkpppjhbmnfmkaaGreatDoor
end
