import Derived.Test.YtkpppjhbmnfmkaaGreatDoorYz
set_option linter.unusedSimpArgs false
set_option linter.unusedVariables false
set_option maxHeartbeats 16000000
set_option maxRecDepth 100000
namespace Go.Proofs.YtkpppjhbmnfmkaaGreatDoor
open Lib (hid)
open Go.RowKit Go.Own Go.Own.Im Go.Own.Cx Go.Own.Fr Go.Own.Hd
def FrB (w:World) (g t f i:Nat) (A:Option Addr) (n c:Nat):Prop:=Blk w g 24 #[.int .i64 (t:Nat),.int .i64 (f:Nat),.int .i64 (i:Nat),.slice A n c]
theorem fr_cells {w:World} {g t f i:Nat} {A:Option Addr} {n c:Nat} (h:FrB w g t f i A n c):w.cell? ⟨g,0,none⟩=some (.int .i64 (t:Nat))/\w.cell? ⟨g,1,none⟩=some (.int .i64 (f:Nat))/\w.cell? ⟨g,2,none⟩=some (.int .i64 (i:Nat))/\w.cell? ⟨g,3,none⟩=some (.slice A n c):=
 ⟨Blk.cell h 0,Blk.cell h 1,Blk.cell h 2,Blk.cell h 3⟩
theorem ev_code {w:World} {B n j:Nat} {ad:Addr} {l:List EvV} {x:EvV} (h:Cm.RS evC 7 w B (some ad) n l) (hx:l[j]?=some x):
 w.cell? ⟨(ad.add (j*7)).block,(ad.add (j*7)).off+2,none⟩=some (.int .i64 (x.code:Nat)):=by
 have hj:j<n:=by rw[<-h.1];exact(List.getElem?_eq_some_iff.1 hx).1
 obtain⟨ad',x',e,h1,h0,hr⟩:=h.at2 hj;injection e with e
 subst e;rw[hx]at h1;injection h1 with h1
 subst h1;exact hr 2 (.int .i64 (x.code:Nat)) (by decide) rfl
theorem iM_last (s:Nat) (ak:Bool) (hs:s=1\/s=2):lastB (iM s ak)=0:=by rcases hs with rfl|rfl<;>cases ak<;>rfl
theorem cell_on {w7 w8 w9:World} {p:Addr} {v:Value} {m:Nat} (h:w7.cell? p=some v) (hb:Below w7.heap.size w7 w8) (hw:w9=w8.drewN m):w9.cell? p=some v:=by
 subst hw;exact(hb.cell (p:=p) (World.block_lt_of_cell? w7 _ h)).trans h
theorem idle_side (w:World) (hW:EnvW w) (side:Int) (d s:Nat) (hd:d+1=s) (hs:s=1\/s=2) (hsd:bits .and .i64 side 1=(d:Int)) (t f i:Nat) (A:Option Addr) (n c:Nat) (p:List UInt8) (ak:Bool) (hr:Rd w w.heap.size A n p) (hc:n<=c) (ht:t<=255) (hf:f<=255) (hi:i<=2147483647) (hn:n<=20000):
 Calls Tryz.prog 3 #[.int .i64 side,.agg #[.int .i64 (t:Nat),.int .i64 (f:Nat),.int .i64 (i:Nat),.slice A n c],.bool ak] w λe w'=>e= .returned (.bool true)/\Below w.heap.size w w':=by
 have HW:=hid hW;have HR:=hid hr;have HN:=hid (show _/\_/\_/\_/\_ from⟨hc,ht,hf,hi,hn⟩);have gq:=hid (λw=>newS_any s hs w 65535 10 (by decide) (by decide));have gs:=hid (helloS_any s hs);have Ho:=hid (show SideOk s from hs);have k1:((i:Int)<0)=False:=by simp only[eq_iff_iff,iff_false];omega
 have k2:((2147483647:Int)<(i:Int))=False:=by simp only[eq_iff_iff,iff_false];omega
 have k3:((t:Int)<0)=False:=by simp only[eq_iff_iff,iff_false];omega
 have k4:((255:Int)<(t:Int))=False:=by simp only[eq_iff_iff,iff_false];omega
 have k5:((f:Int)<0)=False:=by simp only[eq_iff_iff,iff_false];omega
 have k6:((255:Int)<(f:Int))=False:=by simp only[eq_iff_iff,iff_false];omega
 have k7:((20000:Int)<(n:Int))=False:=by simp only[eq_iff_iff,iff_false];omega
 have gy:wrap64 ((d:Int)+1)=(s:Int):=by unfold wrap64;omega
 have gz:IntKind.i64.wrap ((d:Int)+1)=(s:Int):=by rw[IntKind.wrap_i64];omega
 clear hW hr hc ht hf hi hn hs hd;go_enter Tryz.func3,Tryz.ntmps3;go_upto_region 1 with fail;obtain⟨X,hX,hF,gh⟩:∃X,w.alloc (.cells #[.int .i64 (t:Nat),.int .i64 (f:Nat),.int .i64 (i:Nat),.slice A n c] 24)=X/\FrB X w.heap.size t f i A n c/\Below w.heap.size w X:=⟨_,rfl,Blk.new w _ _,(Below.refl _ _).alloc (Nat.le_refl _) _⟩;rw[hX];have g4:=hid hF;have HY:=hid gh;clear hX hF gh;go_wp2_with fail;refine(first_any X (HW.out.below HY.out)).mono ?_;rintro e w1 ⟨rfl,g5⟩;have hm:=hid (HY.out.trans (g5.mono HY.out.size));have HZ:=hid (show FrB w1 w.heap.size t f i A n c from Blk.below g4.out g5 (Blk.lt g4.out));have gt:=hid (HW.out.below hm.out);clear g5 g4 HY;obtain⟨x0,x1,x2,x3⟩:=fr_cells HZ.out;go_wp2_with fail;refine(gq.out w1).mono ?_;rintro e w2 ⟨b,ow2,L2,rfl,gi,g0,g1⟩;have hU:=hid (hm.out.trans (g0.mono hm.out.size));have gj:=hid gi;have hV:=hid (show∀g,g<w1.heap.size->ow2 g= .no from g1);have g2:=hid (gt.out.of g0 g1);have hY:=hid (show FrB w2 w.heap.size t f i A n c from Blk.below HZ.out g0 (Blk.lt HZ.out));have g3:=hid (g1 w.heap.size (Blk.lt HZ.out));clear g0 gi g1 x0 x1 x2 x3;go_wp2_with fail;refine(gs.out w2).mono ?_;rintro e w3 ⟨A3,n3,c3,rfl,gu,gk,g6⟩;have gl:=hid (gj.out.below g6);have gm:=hid (Fr.below g6 ow2);have gn:=hid (g2.out.fr gm.out);have g7:=hid gk;have gg:n3<=140737488355328:=by omega
 clear g6 gk gu;go_wp2_with fail;refine(feed_any w3 ow2 b _ L2 _ 26 A3 _ c3 _ gn.out gl.out g7.out.rd (g7.out.tagged gj.out.new) rfl (by show 0+n3<=_;omega) (runs_helloS _ 10 Ho.out)).mono ?_;rintro e w4 ⟨M4,A4,c4,ow4,L4,rfl,rfl,He,Hp,Hq,_,_,_⟩;have ho:=hid (show CN w4 ow4 b (gM _ 10) L4 from Hp);have hZ:=hid (gm.out.trans Hq);clear He Hp Hq gl gn g7 gg;cases ak
 case true=>
  go_wp2_with fail;refine(lawAck_any w4).mono ?_;rintro e w5 ⟨A5,c5,rfl,go,g8⟩;have hQ:=hid (ho.out.below g8);have he:=hid (hZ.out.trans (Fr.below g8 ow4));have gp:=hid (g2.out.fr he.out);have g9:=hid go;have HV:=hid ho.out.new;clear go g8 ho hZ;go_wp2_with fail;refine(feed_any w5 ow4 b _ L4 _ 1 A5 _ c5 _ gp.out hQ.out g9.out.rd (g9.out.tagged HV.out) rfl (by show 0+9<=_;decide) (runs_ack _ Ho.out)).mono ?_;rintro e w4 ⟨M4,A4,c4,ow4,L4,rfl,rfl,He,Hp,Hq,_,_,_⟩;have ho:=hid (show CN w4 ow4 b (hM _ true) L4 from Hp);have hZ:=hid (he.out.trans Hq);clear He Hp Hq hQ gp g9 he HV;go_wp2_with fail;refine(output_still w4 ow4 b _ L4 ho.out List.Pairwise.nil (Nat.zero_le _) (λs hs=>by cases hs) (.inr λs hs=>by cases hs)).mono ?_;rintro e w5 ⟨A5,c5,ow5,L5,rfl,_,_,_,Hs,Ht⟩;have hQ:=hid (show CN w5 ow5 b (iM s true) L5 from Hs);have he:=hid (hZ.out.trans Ht);have H0:=hid (he.out.toBelow hU.out (λg hg=>hV.out g (Nat.lt_of_lt_of_le hg hm.out.size)));have Hu:=hid (show FrB w5 w.heap.size t f i A n c from(he.out.keep _ (Blk.lt hY.out) g3.out).trans hY.out);clear Hs Ht ho hZ;obtain⟨x0,x1,x2,x3⟩:=fr_cells Hu.out;go_wp2_with fail;refine(lawFrame_any A n c t f i w.heap.size p w5 (HR.out.below H0.out) H0.out.size (by have:=HN.out.2.2.2.2;omega) HN.out.2.1 HN.out.2.2.1 HN.out.2.2.2.1).mono ?_;rintro e w6 ⟨A6,c6,rfl,Hv,H1⟩;have Hx:=hid (hQ.out.below H1);have H2:=hid (he.out.trans (Fr.below H1 ow5));have Hy:=hid (g2.out.fr H2.out);have H3:=hid Hv;clear Hv H1 Hu H0 he x0 x1 x2 x3;go_wp2_with fail;refine(feed_any w6 ow5 b _ L5 _ 1 A6 _ c6 _ Hy.out Hx.out H3.out.rd (H3.out.tagged hQ.out.new) rfl (by have:=HN.out.2.2.2.2;show 0+(9+n)<=_;omega) (runs_iM s true Ho.out HN.out.2.1 HN.out.2.2.1 HN.out.2.2.2.1 (by rw[HR.out.1];exact HN.out.2.2.2.2))).mono ?_;rintro e w7 ⟨M7,A7,c7,ow7,L7,HB,rfl,Hg,HD,HE,hu,_,_⟩;have hh:=hid HB;have HF:=hid HD;have H4:=hid (H2.out.trans HE);have HG:=hid (H4.out.toBelow hU.out (λg hg=>hV.out g (Nat.lt_of_lt_of_le hg hm.out.size)));have HH:=hid (show FrB w7 w.heap.size t f i A n c from(H4.out.keep _ (Blk.lt hY.out) g3.out).trans hY.out);have hk:=hid hu;clear HB Hg HD HE hu Hx H2 Hy H3 hQ;obtain⟨x0,x1,x2,x3⟩:=fr_cells HH.out;go_wp2_with fail;refine(ridle_any s t f i A n c w.heap.size p true w7 (HR.out.below HG.out) HG.out.size HN.out.1 HN.out.2.2.2.2 HN.out.2.2.1).mono ?_;rintro e w8 ⟨rfl,hR⟩;have H5:=hid (HF.out.below hR);have HI:=hid (H4.out.trans (Fr.below hR ow7));have H7:=hid hR;clear hR x0 x1 x2 x3 HF HH;go_wp2_with fail;refine(dead_any w8 ow7 b _ L7 H5.out).mono ?_;rintro e w9 ⟨rfl,m,hS⟩;have HK:=hid (show CN w9 ow7 b _ L7 from hS▸H5.out.drewN m);have HO:=hid (show Fr w2 ow2 w9 ow7 from hS▸(HI.out.trans (Fr.drewN w8 ow7 m)));have H8:=hid (HO.out.toBelow hU.out (λg hg=>hV.out g (Nat.lt_of_lt_of_le hg hm.out.size)));have H9:=hid hS;clear hS H5 HI;obtain⟨v,hv⟩:∃v:Int,idleC s t f i p true=v:=⟨_,rfl⟩;rw[hv]at hh;try rw[hv]
  rcases hh.out with⟨ga,_⟩|⟨gb,hq⟩|⟨c0,gc,gd,hl⟩
  · subst ga
    clear hv hh hk;go_wp2_with fail;go_ret;exact⟨rfl,H8.out⟩
  · subst gb
    rw[show M7.dead=false from hq.dead.trans (iM_dead s true),show M7.code=0 from hq.code.trans (iM_code s true)];obtain⟨E,hE,Ha,Hb⟩:=hq.evs;rw[iM_evs,List.nil_append]at hE;have h1:=hk.out;obtain⟨ne,hne⟩:∃k,M7.evs.length=k:=⟨_,rfl⟩;rw[hne]at h1 ⊢;have HQ:ne<=1:=by rw[<-hne,hE];exact Ha
    by_cases h0:ne=0
    · subst h0
      clear hv hh hk hq hE Ha Hb h1 hne HQ;go_wp2_with fail;go_ret;exact⟨rfl,H8.out⟩
    · obtain⟨j,hj⟩:∃j,ne=j+1:=⟨ne-1,by omega⟩
      obtain⟨x,hx⟩:∃x,M7.evs[j]?=some x:=⟨M7.evs[j]'(by omega),List.getElem?_eq_getElem _⟩;have HS:x.kind≠8:=Hb x (hE▸List.mem_of_getElem? hx);obtain⟨ad,rfl⟩:∃ad,A7=some ad:=by
       obtain⟨ad',x',e,_⟩:=h1.at2 (j:=j) (by omega);exact⟨ad',e⟩
      have kk:=cell_on (ev_at h1 hx).1 H7.out H9.out;obtain⟨kd,HT⟩:∃k,x.kind=k:=⟨_,rfl⟩;rw[HT]at kk HS;have gv:wrap64 ((ne:Int)-1)=(j:Int):=by unfold wrap64;omega
      have gw:IntKind.i64.wrap ((ne:Int)-1)=(j:Int):=by rw[IntKind.wrap_i64];omega
      have gx:(j<ne)=True:=by simp;omega
      have n0:((ne:Int)=0)=False:=by simp;omega
      have n1:((ne:Int)==0)=false:=by simp;omega
      have d0:((kd:Int)=8)=False:=by simp;omega
      have d1:((kd:Int)==8)=false:=by simp;omega
      have D2:=hid (show((kd:Int) != 8)=true by simp;omega);clear hv hh hk hq hE Ha Hb h1 hne HQ h0 hj hx HS HT;go_wp2_with fail;go_ret;exact⟨by show Ending.returned (.bool ((kd:Int) != 8))=_;rw[D2.out],H8.out⟩
  subst gc;have Hc:M7.evs=[{kind:=8,code:=c0}]:=by rw[hl];show(iM s true).evs++_=_;rw[iM_evs];rfl
  have HU:M7.out=frameB 7 0 0 (be 0 4++be c0 4):=by
   rw[hl];show(iM s true).out++frameB 7 0 0 (be (lastB (iM s true)) 4++be c0 4)=_;rw[iM_last s true Ho.out]
   rfl
  have h1:=hk.out;rw[Hc]at h1;obtain⟨ad,rfl⟩:∃ad,A7=some ad:=by
   obtain⟨ad',x',e,_⟩:=h1.at2 (j:=0) (by simp);exact⟨ad',e⟩
  have k0:w9.cell? ad=some (.int .i64 8):=cell_on (ev_at h1 (j:=0) (x:={kind:=8,code:=c0}) rfl).1 H7.out H9.out;have k2:w9.cell? ⟨ad.block,ad.off+2,none⟩=some (.int .i64 (c0:Nat)):=cell_on (ev_code h1 (j:=0) (x:={kind:=8,code:=c0}) rfl) H7.out H9.out;rw[show M7.dead=true by rw[hl];rfl,show M7.code=c0 by rw[hl];rfl,show M7.evs.length=1 by rw[Hc];rfl];have n2:((c0:Int)= -2)=False:=by simp
  have n2b:((c0:Int)== -2)=false:=by simp
  have n1:((c0:Int)= -1)=False:=by simp
  have n1b:((c0:Int)== -1)=false:=by simp
  have HC:=hid (show c0<4294967296 by omega);have ge:=hid HU;have hT:=hid hl;clear hv hh hk h1 Hc HU hl gd;go_wp2_with fail;refine(lawNumber_any 0 w9 (by decide)).mono ?_;rintro e w10 ⟨rfl,h6,hA⟩;have h4:w9.heap.size<w10.heap.size:=by
   obtain⟨ad2,e2,gf,hc⟩:=h6.2 (by decide);injection e2 with e2
   subst e2;exact(World.block_lt_of_cell? w10 _ (hc 0 (by decide)))
  have hC:=hid (Oz.full (own:=λg=>w9.heap.size<=g) h6 h4 (by decide) (Nat.le_refl _) (by decide));have h7:=hid hA;clear h6 h4 hA k0 k2;go_wp2_with fail;refine(lawNumber_any c0 w10 HC.out).mono ?_;rintro e w11 ⟨rfl,h8,h2⟩;have h5:w10.heap.size<w11.heap.size:=by
   obtain⟨ad2,e2,gf,hc⟩:=h8.2 (by decide);injection e2 with e2
   subst e2;exact(World.block_lt_of_cell? w11 _ (hc 0 (by decide)))
  have hD:=hid (h8.more h5);have hG:=hid (hC.out.keep (λg hg _=>h2.block g hg) h2.size);have h3:=hid (h7.out.trans (h2.mono h7.out.size));clear h8 h2 h5 hC h7;go_wp2_with (first
   |(refine wpList_app_z byteP _ rfl (.tmp 148) (.tmp 150) rfl (λg=>w9.heap.size<=g) (.slice (some ⟨w9.heap.size,0,none⟩) 4 4) (be 0 4) rfl hG.out w11.heap.size (some ⟨w10.heap.size,0,none⟩) 4 4 (be c0 4) rfl hD.out (by decide) ?_
     intro A12 c12 w12 row12 hH hI hJ;have Hh:=hid (hH.owned (own':=λg=>w9.heap.size<=g) (λg _ h=>by rcases h with h|⟨_,h⟩;exact h;rw[h];exact h3.out.size));have h9:=hid (h3.out.grown hI h3.out.size (λg e=>(hJ g e).1));clear hH hI hJ hG hD h3)
   |fail)
  refine(lawFrame_any A12 (4+4) c12 7 0 0 w12.heap.size (be 0 4++be c0 4) w12 Hh.out.rd (Nat.le_refl _) (by decide) (by decide) (by decide) (by decide)).mono ?_;rintro e w13 ⟨A13,c13,rfl,hK,hL⟩;have hN:=hid hK;have hO:=hid (h9.out.trans (hL.mono h9.out.size));have Hi:=hid (HK.out.below hO.out);clear hK hL;go_wp2_with fail;refine(output_still w13 ow7 b _ L7 Hi.out (by rw[hT.out];exact List.Pairwise.nil) (by rw[hT.out];exact Nat.zero_le _) (by rw[hT.out];intro s hs;cases hs) (.inl (by rw[hT.out];rfl))).mono ?_;rintro e w14 ⟨A14,c14,ow14,L14,rfl,_,hP,_,_,hb⟩;have Hj:=hid (Fr.rd hb hN.out.rd (Nat.le_refl _) (hN.out.tagged (λg hg=>HK.out.new g (Nat.le_trans h9.out.size hg))));have Hl:=hid hP;have Hm:=hid ((Fr.below hO.out ow7).trans hb);have Hn:=hid ((HO.out.trans Hm.out).toBelow hU.out (λg hg=>hV.out g (Nat.lt_of_lt_of_le hg hm.out.size)));clear hP hb;go_wp2_with fail;refine(sameBytes_any A14 A13 _ _ c14 c13 _ _ w14 _ _ Hl.out Hj.out).mono ?_;rintro e w15 ⟨rfl,hw⟩;subst hw;go_wp2_with fail;go_ret;exact⟨by rw[decide_eq_true ge.out];rfl,Hn.out⟩
 case false=>
  have HX:=hid (show CN w4 ow4 b (hM _ false) L4 from ho.out);clear ho;have ho:=HX;clear HX;go_wp2_with fail;refine(output_still w4 ow4 b _ L4 ho.out List.Pairwise.nil (Nat.zero_le _) (λs hs=>by cases hs) (.inr λs hs=>by cases hs)).mono ?_;rintro e w5 ⟨A5,c5,ow5,L5,rfl,_,_,_,Hs,Ht⟩;have hQ:=hid (show CN w5 ow5 b (iM s false) L5 from Hs);have he:=hid (hZ.out.trans Ht);have H0:=hid (he.out.toBelow hU.out (λg hg=>hV.out g (Nat.lt_of_lt_of_le hg hm.out.size)));have Hu:=hid (show FrB w5 w.heap.size t f i A n c from(he.out.keep _ (Blk.lt hY.out) g3.out).trans hY.out);clear Hs Ht ho hZ;obtain⟨x0,x1,x2,x3⟩:=fr_cells Hu.out;go_wp2_with fail;refine(lawFrame_any A n c t f i w.heap.size p w5 (HR.out.below H0.out) H0.out.size (by have:=HN.out.2.2.2.2;omega) HN.out.2.1 HN.out.2.2.1 HN.out.2.2.2.1).mono ?_;rintro e w6 ⟨A6,c6,rfl,Hv,H1⟩;have Hx:=hid (hQ.out.below H1);have H2:=hid (he.out.trans (Fr.below H1 ow5));have Hy:=hid (g2.out.fr H2.out);have H3:=hid Hv;clear Hv H1 Hu H0 he x0 x1 x2 x3;go_wp2_with fail;refine(feed_any w6 ow5 b _ L5 _ 1 A6 _ c6 _ Hy.out Hx.out H3.out.rd (H3.out.tagged hQ.out.new) rfl (by have:=HN.out.2.2.2.2;show 0+(9+n)<=_;omega) (runs_iM s false Ho.out HN.out.2.1 HN.out.2.2.1 HN.out.2.2.2.1 (by rw[HR.out.1];exact HN.out.2.2.2.2))).mono ?_;rintro e w7 ⟨M7,A7,c7,ow7,L7,HB,rfl,Hg,HD,HE,hu,_,_⟩;have hh:=hid HB;have HF:=hid HD;have H4:=hid (H2.out.trans HE);have HG:=hid (H4.out.toBelow hU.out (λg hg=>hV.out g (Nat.lt_of_lt_of_le hg hm.out.size)));have HH:=hid (show FrB w7 w.heap.size t f i A n c from(H4.out.keep _ (Blk.lt hY.out) g3.out).trans hY.out);have hk:=hid hu;clear HB Hg HD HE hu Hx H2 Hy H3 hQ;obtain⟨x0,x1,x2,x3⟩:=fr_cells HH.out;go_wp2_with fail;refine(ridle_any s t f i A n c w.heap.size p false w7 (HR.out.below HG.out) HG.out.size HN.out.1 HN.out.2.2.2.2 HN.out.2.2.1).mono ?_;rintro e w8 ⟨rfl,hR⟩;have H5:=hid (HF.out.below hR);have HI:=hid (H4.out.trans (Fr.below hR ow7));have H7:=hid hR;clear hR x0 x1 x2 x3 HF HH;go_wp2_with fail;refine(dead_any w8 ow7 b _ L7 H5.out).mono ?_;rintro e w9 ⟨rfl,m,hS⟩;have HK:=hid (show CN w9 ow7 b _ L7 from hS▸H5.out.drewN m);have HO:=hid (show Fr w2 ow2 w9 ow7 from hS▸(HI.out.trans (Fr.drewN w8 ow7 m)));have H8:=hid (HO.out.toBelow hU.out (λg hg=>hV.out g (Nat.lt_of_lt_of_le hg hm.out.size)));have H9:=hid hS;clear hS H5 HI;obtain⟨v,hv⟩:∃v:Int,idleC s t f i p false=v:=⟨_,rfl⟩;rw[hv]at hh;try rw[hv]
  rcases hh.out with⟨ga,_⟩|⟨gb,hq⟩|⟨c0,gc,gd,hl⟩
  · subst ga
    clear hv hh hk;go_wp2_with fail;go_ret;exact⟨rfl,H8.out⟩
  · subst gb
    rw[show M7.dead=false from hq.dead.trans (iM_dead s false),show M7.code=0 from hq.code.trans (iM_code s false)];obtain⟨E,hE,Ha,Hb⟩:=hq.evs;rw[iM_evs,List.nil_append]at hE;have h1:=hk.out;obtain⟨ne,hne⟩:∃k,M7.evs.length=k:=⟨_,rfl⟩;rw[hne]at h1 ⊢;have HQ:ne<=1:=by rw[<-hne,hE];exact Ha
    by_cases h0:ne=0
    · subst h0
      clear hv hh hk hq hE Ha Hb h1 hne HQ;go_wp2_with fail;go_ret;exact⟨rfl,H8.out⟩
    · obtain⟨j,hj⟩:∃j,ne=j+1:=⟨ne-1,by omega⟩
      obtain⟨x,hx⟩:∃x,M7.evs[j]?=some x:=⟨M7.evs[j]'(by omega),List.getElem?_eq_getElem _⟩;have HS:x.kind≠8:=Hb x (hE▸List.mem_of_getElem? hx);obtain⟨ad,rfl⟩:∃ad,A7=some ad:=by
       obtain⟨ad',x',e,_⟩:=h1.at2 (j:=j) (by omega);exact⟨ad',e⟩
      have kk:=cell_on (ev_at h1 hx).1 H7.out H9.out;obtain⟨kd,HT⟩:∃k,x.kind=k:=⟨_,rfl⟩;rw[HT]at kk HS;have gv:wrap64 ((ne:Int)-1)=(j:Int):=by unfold wrap64;omega
      have gw:IntKind.i64.wrap ((ne:Int)-1)=(j:Int):=by rw[IntKind.wrap_i64];omega
      have gx:(j<ne)=True:=by simp;omega
      have n0:((ne:Int)=0)=False:=by simp;omega
      have n1:((ne:Int)==0)=false:=by simp;omega
      have d0:((kd:Int)=8)=False:=by simp;omega
      have d1:((kd:Int)==8)=false:=by simp;omega
      have D2:=hid (show((kd:Int) != 8)=true by simp;omega);clear hv hh hk hq hE Ha Hb h1 hne HQ h0 hj hx HS HT;go_wp2_with fail;go_ret;exact⟨by show Ending.returned (.bool ((kd:Int) != 8))=_;rw[D2.out],H8.out⟩
  subst gc;have Hc:M7.evs=[{kind:=8,code:=c0}]:=by rw[hl];show(iM s false).evs++_=_;rw[iM_evs];rfl
  have HU:M7.out=frameB 7 0 0 (be 0 4++be c0 4):=by
   rw[hl];show(iM s false).out++frameB 7 0 0 (be (lastB (iM s false)) 4++be c0 4)=_;rw[iM_last s false Ho.out]
   rfl
  have h1:=hk.out;rw[Hc]at h1;obtain⟨ad,rfl⟩:∃ad,A7=some ad:=by
   obtain⟨ad',x',e,_⟩:=h1.at2 (j:=0) (by simp);exact⟨ad',e⟩
  have k0:w9.cell? ad=some (.int .i64 8):=cell_on (ev_at h1 (j:=0) (x:={kind:=8,code:=c0}) rfl).1 H7.out H9.out;have k2:w9.cell? ⟨ad.block,ad.off+2,none⟩=some (.int .i64 (c0:Nat)):=cell_on (ev_code h1 (j:=0) (x:={kind:=8,code:=c0}) rfl) H7.out H9.out;rw[show M7.dead=true by rw[hl];rfl,show M7.code=c0 by rw[hl];rfl,show M7.evs.length=1 by rw[Hc];rfl];have n2:((c0:Int)= -2)=False:=by simp
  have n2b:((c0:Int)== -2)=false:=by simp
  have n1:((c0:Int)= -1)=False:=by simp
  have n1b:((c0:Int)== -1)=false:=by simp
  have HC:=hid (show c0<4294967296 by omega);have ge:=hid HU;have hT:=hid hl;clear hv hh hk h1 Hc HU hl gd;go_wp2_with fail;refine(lawNumber_any 0 w9 (by decide)).mono ?_;rintro e w10 ⟨rfl,h6,hA⟩;have h4:w9.heap.size<w10.heap.size:=by
   obtain⟨ad2,e2,gf,hc⟩:=h6.2 (by decide);injection e2 with e2
   subst e2;exact(World.block_lt_of_cell? w10 _ (hc 0 (by decide)))
  have hC:=hid (Oz.full (own:=λg=>w9.heap.size<=g) h6 h4 (by decide) (Nat.le_refl _) (by decide));have h7:=hid hA;clear h6 h4 hA k0 k2;go_wp2_with fail;refine(lawNumber_any c0 w10 HC.out).mono ?_;rintro e w11 ⟨rfl,h8,h2⟩;have h5:w10.heap.size<w11.heap.size:=by
   obtain⟨ad2,e2,gf,hc⟩:=h8.2 (by decide);injection e2 with e2
   subst e2;exact(World.block_lt_of_cell? w11 _ (hc 0 (by decide)))
  have hD:=hid (h8.more h5);have hG:=hid (hC.out.keep (λg hg _=>h2.block g hg) h2.size);have h3:=hid (h7.out.trans (h2.mono h7.out.size));clear h8 h2 h5 hC h7;go_wp2_with (first
   |(refine wpList_app_z byteP _ rfl (.tmp 148) (.tmp 150) rfl (λg=>w9.heap.size<=g) (.slice (some ⟨w9.heap.size,0,none⟩) 4 4) (be 0 4) rfl hG.out w11.heap.size (some ⟨w10.heap.size,0,none⟩) 4 4 (be c0 4) rfl hD.out (by decide) ?_
     intro A12 c12 w12 row12 hH hI hJ;have Hh:=hid (hH.owned (own':=λg=>w9.heap.size<=g) (λg _ h=>by rcases h with h|⟨_,h⟩;exact h;rw[h];exact h3.out.size));have h9:=hid (h3.out.grown hI h3.out.size (λg e=>(hJ g e).1));clear hH hI hJ hG hD h3)
   |fail)
  refine(lawFrame_any A12 (4+4) c12 7 0 0 w12.heap.size (be 0 4++be c0 4) w12 Hh.out.rd (Nat.le_refl _) (by decide) (by decide) (by decide) (by decide)).mono ?_;rintro e w13 ⟨A13,c13,rfl,hK,hL⟩;have hN:=hid hK;have hO:=hid (h9.out.trans (hL.mono h9.out.size));have Hi:=hid (HK.out.below hO.out);clear hK hL;go_wp2_with fail;refine(output_still w13 ow7 b _ L7 Hi.out (by rw[hT.out];exact List.Pairwise.nil) (by rw[hT.out];exact Nat.zero_le _) (by rw[hT.out];intro s hs;cases hs) (.inl (by rw[hT.out];rfl))).mono ?_;rintro e w14 ⟨A14,c14,ow14,L14,rfl,_,hP,_,_,hb⟩;have Hj:=hid (Fr.rd hb hN.out.rd (Nat.le_refl _) (hN.out.tagged (λg hg=>HK.out.new g (Nat.le_trans h9.out.size hg))));have Hl:=hid hP;have Hm:=hid ((Fr.below hO.out ow7).trans hb);have Hn:=hid ((HO.out.trans Hm.out).toBelow hU.out (λg hg=>hV.out g (Nat.lt_of_lt_of_le hg hm.out.size)));clear hP hb;go_wp2_with fail;refine(sameBytes_any A14 A13 _ _ c14 c13 _ _ w14 _ _ Hl.out Hj.out).mono ?_;rintro e w15 ⟨rfl,hw⟩;subst hw;go_wp2_with fail;go_ret;exact⟨by rw[decide_eq_true ge.out];rfl,Hn.out⟩
end Go.Proofs.YtkpppjhbmnfmkaaGreatDoor
