/-
  
  
  
  
  
  
-/
import Derived.Test.YtkpppjhbmnfmkaaGreatDoorJau
import Derived.Test.YtkpppjhbmnfmkaaGreatDoorJak
import Derived.Test.YtkpppjhbmnfmkaaGreatDoorJab
import Derived.LaidEql
import Derived.BigQuiet
import Derived.Test.YtkpppjhbmnfmkaaGreatDoorJaa
import Derived.Deep.Fields
import Derived.ChangeSame
import Derived.ProofKit
import Derived.OpenShut
import Derived.Lib.SmallJoins
import Derived.Lib.LaidTab
import Derived.Test.YtkpppjhbmnfmkaaGreatDoorJad
set_option linter.unusedSimpArgs false
set_option linter.unusedVariables false
section
namespace Go.Proofs.YtkpppjhbmnfmkaaGreatDoor
open Go.RowKit Go.Own Go.Own.Im Go.Own.Cx Go.Own.Fr Go.Own.Hd
def s3:Cv:={s2 with out:=[]}
def s4:Cv:=refM s3 3
theorem runs2:Runs 1 {s3 with evs:=[],fed:=s3.fed++frameB 1 5 3 b3} (λM'=>M'=s4):=by
 refine .more rfl (step_takes _ _ 1 5 3 b3 [] rfl (by show frameB 1 5 3 b3=_;rw[List.append_nil]) (by decide) (by decide) (by decide) (by decide) (flag5▸takes_many s3 3 true b3 hs3 dec3 (by decide) rfl rfl rfl rfl rfl rfl rfl (by decide) (by decide) (by decide))) λM1 h1=>?_;subst h1;exact .stop rfl ((step_few _ rfl (by show([]:List UInt8).length<9;decide)).mono λM' h'=>h')
def s5:Cv:={s4 with out:=[]}
def s6:Cv:=deadM s5 1
theorem runs3:Runs 1 {s5 with evs:=[],fed:=s5.fed++frameB 0 0 9 []} (λM'=>M'=s6):=by
 refine .more rfl (step_panics _ (λM'=>M'=s5) (λM'=>M'=s6) 0 0 9 1 0 [] [] rfl (by show frameB 0 0 9 []=_;rw[List.append_nil]) (by decide) (by decide) (by decide) (by decide) (takes_idle s5 9 rfl rfl (by decide) (by decide) (by decide)) (λM1 h1=>?_)) λM1 h1=>?_
 · subst h1
   exact fault_dead s5 1 (by decide) (by decide) (by decide) (by decide)
 · subst h1
   exact .dead rfl rfl
structure EnvW (w:World):Prop where
 room:20<=w.heap.size
 env:∃e1 e2 e3,H6.EnvH w e1 e2 e3
 ends:∃a c,a≠c/\w.cell? ⟨10,0,none⟩=some (.iface 327 (.pointer (some a)))/\w.cell? ⟨5,0,none⟩=some (.iface 327 (.pointer (some c)))/\
  (∃cs t,w.heap[a.block]?=some (.cells cs t (0,0)))/\∃cs t,w.heap[c.block]?=some (.cells cs t (0,0))
 hp:HpE w
theorem EnvW.below {w w':World} (h:EnvW w) (hb:Below w.heap.size w w'):EnvW w':=by
 have hk:∀i,i<20->w'.heap[i]?=w.heap[i]?:=λi hi=>hb.block i (by have:=h.room;omega);obtain⟨e1,e2,e3,he⟩:=h.env;obtain⟨a,c,hne,h1,h2,⟨ca,ta,ha⟩,cc,tc,hc⟩:=h.ends;exact⟨Nat.le_trans h.room hb.size,⟨e1,e2,e3,he.kept hk (Nat.le_trans h.room hb.size)⟩,⟨a,c,hne,(World.cell?_of_block (a:=⟨10,0,none⟩) (hk _ (by decide))).trans h1,(World.cell?_of_block (a:=⟨5,0,none⟩) (hk _ (by decide))).trans h2,
  ⟨ca,ta,(hb.block _ (Array.getElem?_eq_some_iff.1 ha).1).trans ha⟩,cc,tc,(hb.block _ (Array.getElem?_eq_some_iff.1 hc).1).trans hc⟩,h.hp.keep hb.size hk⟩
theorem EnvW.of {w w':World} {ow:Nat->Tg} (h:EnvW w) (hb:Below w.heap.size w w') (ho:∀g,g<w.heap.size->ow g= .no):Env w' ow:=by
 have hk:∀i,i<20->w'.heap[i]?=w.heap[i]?:=λi hi=>hb.block i (by have:=h.room;omega);have hz:=Nat.le_trans h.room hb.size;have h0:∀g,g<20->ow g= .no:=λg hg=>ho g (by have:=h.room;omega);obtain⟨e1,e2,e3,he⟩:=h.env;obtain⟨a,c,hne,h1,h2,⟨ca,ta,ha⟩,cc,tc,hc⟩:=h.ends;have h3:=(Array.getElem?_eq_some_iff.1 ha).1;have h4:=(Array.getElem?_eq_some_iff.1 hc).1;exact⟨hz,h0,⟨e1,e2,e3,he.kept hk hz⟩,⟨a,c,hz,h0,hne,(World.cell?_of_block (a:=⟨10,0,none⟩) (hk _ (by decide))).trans h1,(World.cell?_of_block (a:=⟨5,0,none⟩) (hk _ (by decide))).trans h2,
  ⟨ca,ta,(hb.block _ h3).trans ha⟩,⟨cc,tc,(hb.block _ h4).trans hc⟩,ho _ h3,ho _ h4⟩,h.hp.keep hb.size hk⟩
theorem _root_.Go.Own.Cx.Fr.toBelow {w w1 w':World} {ow ow':Nat->Tg} (hb:Below w.heap.size w w1) (ho:∀g,g<w.heap.size->ow g= .no) (h:Fr w1 ow w' ow'):Below w.heap.size w w':=
 ⟨h.os.trans hb.os,h.tape.trans hb.tape,h.output.trans hb.output,Nat.le_trans hb.size h.size,λg hg=>(h.keep g (Nat.lt_of_lt_of_le hg hb.size) (ho g hg)).trans (hb.block g hg)⟩
theorem _root_.Go.Own.Oz.tagged {w w':World} {A:Option Addr} {n c:Nat} {l:List UInt8} {ow:Nat->Tg} (h:Oz w' (λg=>w.heap.size<=g) (.slice A n c) l) (hn:∀g,w.heap.size<=g->ow g= .no):0<n->∀ad,A=some ad->ow ad.block= .no:=λhp ad ha=>by
 obtain⟨A',c',e,h1,_,h3⟩:=h;injection e with e1 e2 e3
 obtain⟨g,off,e4,ho,_⟩:=h3 (by omega);rw[<-e1,ha]at e4;injection e4 with e4
 rw[e4];exact hn g ho
theorem _root_.Go.Own.Ow.tagged {w':World} {B:Nat} {e:TypeId} {A:Option Addr} {n c:Nat} {l:List UInt8} {ow:Nat->Tg} (h:Ow w' B e (.slice A n c) n l) (hn:∀g,B<=g->ow g= .no):0<n->∀ad,A=some ad->ow ad.block= .no:=λhp ad ha=>by
 rcases h.2 with⟨e,h0⟩|⟨g,cap,cur,e,hb,_⟩
 · omega
 · injection e with e
   rw[ha]at e;injection e with e
   rw[e];exact hn _ hb
end Go.Proofs.YtkpppjhbmnfmkaaGreatDoor
end

section
set_option maxHeartbeats 16000000
set_option maxRecDepth 100000
namespace Go.Proofs.YtkpppjhbmnfmkaaGreatDoor
open Lib (hid)
open Go.RowKit Go.Own Go.Own.Im Go.Own.Cx Go.Own.Fr Go.Own.Hd
theorem ev_at {w:World} {B n j:Nat} {ad:Addr} {l:List EvV} {x:EvV} (h:Cm.RS evC 7 w B (some ad) n l) (hx:l[j]?=some x):
 w.cell? (ad.add (j*7))=some (.int .i64 (x.kind:Nat))/\w.cell? ⟨(ad.add (j*7)).block,(ad.add (j*7)).off+1,none⟩=some (.int .i64 (x.stream:Nat))/\w.cell? ⟨(ad.add (j*7)).block,(ad.add (j*7)).off+4,none⟩=some (.bool x.fin):=by
 have hj:j<n:=by rw[<-h.1];exact(List.getElem?_eq_some_iff.1 hx).1
 obtain⟨ad',x',e,h1,h0,hr⟩:=h.at2 hj;injection e with e
 subst e;rw[hx]at h1;injection h1 with h1
 subst h1;exact⟨h0,hr 1 (.int .i64 (x.stream:Nat)) (by decide) rfl,hr 4 (.bool x.fin) (by decide) rfl⟩
theorem rd_b3 (w:World):Rd (w.alloc (.cells #[.int .u8 131,.int .u8 134,.int .u8 132] 5)) (w.alloc (.cells #[.int .u8 131,.int .u8 134,.int .u8 132] 5)).heap.size (some ⟨w.heap.size,0,none⟩) 3 b3:=
 (show Ow (w.alloc (.cells #[.int .u8 131,.int .u8 134,.int .u8 132] 5)) w.heap.size 5 (.slice (some ⟨w.heap.size,0,none⟩) 3 3) 3 b3 from Ow.lit w 5 b3 (by decide)).rd
theorem first_any (w:World) (hW:EnvW w):Calls Tryz.prog 8 #[] w λe w'=>e= .returned (.bool true)/\Below w.heap.size w w':=by
 have HE:=hid hW;have HN:=hid (new2_any w 65535 1 (by decide) (by decide));clear hW;go_enter Tryz.func8,Tryz.ntmps8;go_wp2_with fail;refine HN.out.mono ?_;rintro e w1 ⟨b,ow1,L1,rfl,Ho,Hp,Hq⟩;have H1:=hid Hp;have gb:=hid Ho;have H2:=hid Hq;clear Ho Hp Hq HN;go_wp2_with fail;refine(output_still w1 ow1 b _ L1 gb.out List.Pairwise.nil (by decide) (λs hs=>by cases hs) (.inr λs hs=>by cases hs)).mono ?_;rintro e w2 ⟨A2,c2,ow2,L2,rfl,Hh,Hs,gc,Ht,Hu⟩;have Hv:=hid Hs;have Hx:=hid (show CN w2 ow2 b s1 L2 from Ht);have Hy:=hid Hu;clear Hh Hs gc Ht Hu;go_wp2_with fail;refine(begins2_any w2 65535 1 (by decide) (by decide)).mono ?_;rintro e w3 ⟨A3,n3,c3,rfl,HB,H3⟩;have hj:=hid (Hv.out.below H3);have HC:=hid HB;have H8:=hid (Hx.out.below H3);have HD:=hid (Hy.out.trans (Fr.below H3 ow2));clear HB H3 Hx Hy Hv;go_wp2_with fail;refine(sameBytes_any A2 A3 _ n3 c2 c3 _ _ w3 _ _ hj.out HC.out).mono ?_;rintro e w4 ⟨rfl,hw⟩;subst w4;rw[show decide ((newM 2 65535 1).out=(newM 2 65535 1).out)=true from decide_eq_true rfl];clear hj HC;go_wp2_with fail;refine(hello2_any w3).mono ?_;rintro e w4 ⟨A4,c4,rfl,HF,HG⟩;have HH:=hid HF;have H9:=hid HG;clear HF HG;have HI:=hid (rd_b3 w4);have Ha:=hid ((Below.refl w4.heap.size w4).alloc (Nat.le_refl _) (.cells #[.int .u8 131,.int .u8 134,.int .u8 132] 5));go_wp2_with fail;generalize w4.alloc (.cells #[.int .u8 131,.int .u8 134,.int .u8 132] 5)=W4 at*
 refine(lawFrame_any (some ⟨w4.heap.size,0,none⟩) 3 3 1 5 1 W4.heap.size b3 W4 HI.out (Nat.le_refl _) (by decide) (by decide) (by decide) (by decide)).mono ?_;rintro e w5 ⟨A5,c5,rfl,HO,HQ⟩;have h3:=hid (Ha.out.trans (HQ.mono Ha.out.size));have HR:=hid (HH.out.keep (λg hg _=>h3.out.block g hg) h3.out.size);have HS:=hid HO.rd;have H4:=hid (H9.out.trans (h3.out.mono H9.out.size));have hk:(prefB++frameB 4 0 0 []).length+(9+3)<=140737488355328:=by decide
 clear HO HQ;go_wp2_with (first
  |(refine wpList_app_z byteP _ rfl (.tmp 29) (.tmp 31) rfl (λg=>w3.heap.size<=g) (.slice A4 33 c4) (prefB++frameB 4 0 0 []) rfl HR.out w5.heap.size A5 (9+3) c5 (frameB 1 5 1 b3) rfl HS.out hk ?_
    intro A6 c6 w6 row6 HT HU HV;have Hb:=hid (HT.owned (own':=λg=>w3.heap.size<=g) (λg _ h=>by rcases h with h|⟨_,h⟩;exact h;rw[h];exact H4.out.size));have Hc:=hid (H4.out.grown HU H4.out.size (λg e=>(HV g e).1));clear HT HU HV)
  |fail)
 have HW:=hid (H8.out.below Hc.out);have He:=hid (HD.out.trans (Fr.below Hc.out ow2));have HX:=hid ((HE.out.of H1.out H2.out).fr He.out);refine(feed_any w6 ow2 b s1 L2 _ 26 A6 _ c6 _ HX.out HW.out Hb.out.rd (Hb.out.tagged H8.out.new) rfl hk runs1).mono ?_;rintro e w7 ⟨M7,A7,c7,ow7,L7,⟨A,c,rfl⟩,rfl,Hi,HY,HZ,h2,_,_⟩;rw[show(m5 A c).evs.length=2 from rfl]at h2 Hi ⊢;have g0:=hid (show CN w7 ow7 b s2 L7 from HY);have g1:=hid (He.out.trans HZ);obtain⟨ad,_,rfl,_⟩:=h2.at2 (j:=0) (by decide);have k00:w7.cell? ad=some (.int .i64 7):=(ev_at h2 (j:=0) (x:={kind:=7}) rfl).1;have k1:=ev_at h2 (j:=1) (x:={kind:=1,stream:=1,fin:=true,la:=A,lc:=c,l:=hs3}) rfl;have k10:w7.cell? ⟨ad.block,ad.off+7,none⟩=some (.int .i64 1):=k1.1;have k11:w7.cell? ⟨ad.block,ad.off+7+1,none⟩=some (.int .i64 1):=k1.2.1;have k11':w7.cell? ⟨ad.block,ad.off+8,none⟩=some (.int .i64 1):=k1.2.1;have k14:w7.cell? ⟨ad.block,ad.off+7+4,none⟩=some (.bool true):=k1.2.2;have k14':w7.cell? ⟨ad.block,ad.off+11,none⟩=some (.bool true):=k1.2.2;clear k1;clear HY HZ h2 HW He HX Hb Hc HR HS H4 h3 Ha HI HH H9 H8 HD;have hl:(s2.strs.map (·.id)).Pairwise (·<·):=by decide
 have hm:∀s∈s2.strs,s.id<=2147483647:=by decide
 have hn:∀s∈s2.strs,Still s:=by
  intro s hs;have:s=endS {id:=1,other:=1,inw:=65535,outw:=65535} true:=by
   have h1:s∈[endS {id:=1,other:=1,inw:=65535,outw:=65535} true]:=hs
   simpa using h1
  rw[this];exact⟨rfl,by decide⟩
 go_wp2_with fail;clear k00 k10 k11 k11' k14 k14';refine(output_still w7 ow7 b _ L7 g0.out hl (by decide) hm (.inr hn)).mono ?_;rintro e w8 ⟨A8,c8,ow8,L8,rfl,Hj,g2,gd,g3,g4⟩;have g5:=hid (show Rd w8 w8.heap.size A8 9 (frameB 4 1 0 [])from g2);have g6:=hid (show CN w8 ow8 b s3 L8 from g3);have g7:=hid (g1.out.trans g4);clear Hj g2 gd g3 g4 g1 g0;go_wp2_with fail;refine(lawAck_any w8).mono ?_;rintro e w9 ⟨A9,c9,rfl,g8,H5⟩;have ho:=hid (g5.out.below H5);have g9:=hid g8.rd;have Hg:=hid (g6.out.below H5);have ga:=hid (g7.out.trans (Fr.below H5 ow8));clear g8 H5 g7 g6 g5;go_wp2_with fail;refine(sameBytes_any A8 A9 9 9 c8 c9 _ _ w9 _ _ ho.out g9.out).mono ?_;rintro e w10 ⟨rfl,hw⟩;subst w10;rw[show decide (frameB 4 1 0 []=frameB 4 1 0 [])=true from decide_eq_true rfl];clear ho g9;have HR10:=hid (rd_b3 w9);have H7:=hid ((Below.refl w9.heap.size w9).alloc (Nat.le_refl _) (.cells #[.int .u8 131,.int .u8 134,.int .u8 132] 5));go_wp2_with fail;generalize w9.alloc (.cells #[.int .u8 131,.int .u8 134,.int .u8 132] 5)=W9 at*
 refine(lawFrame_any (some ⟨w9.heap.size,0,none⟩) 3 3 1 5 3 W9.heap.size b3 W9 HR10.out (Nat.le_refl _) (by decide) (by decide) (by decide) (by decide)).mono ?_;rintro e w11 ⟨A11,c11,rfl,hq,ht⟩;have h7:=hid (H7.out.trans (ht.mono H7.out.size));have h8:=hid (hq.base H7.out.size);have hu:=hid (Hg.out.below h7.out);have h9:=hid (ga.out.trans (Fr.below h7.out ow8));have hA:=hid ((HE.out.of H1.out H2.out).fr h9.out);clear hq ht;go_wp2_with fail;refine(feed_any w11 ow8 b s3 L8 _ 1 A11 _ c11 _ hA.out hu.out h8.out.rd (h8.out.tagged Hg.out.new) rfl (by show 0+(9+3)<=_;decide) runs2).mono ?_;rintro e w12 ⟨M12,A12,c12,ow12,L12,rfl,rfl,hY,hC,hD,_,_,_⟩;rw[show s4.evs.length=0 from rfl];have hE:=hid (show CN w12 ow12 b s4 L12 from hC);have hF:=hid (h9.out.trans hD);clear hY hC hD hu h9 hA h8 h7 H7 HR10 Hg ga;go_wp2_with fail;refine(output_still w12 ow12 b _ L12 hE.out hl (by decide) hm (.inr hn)).mono ?_;rintro e w13 ⟨A13,c13,ow13,L13,rfl,hZ,hG,Hl,hH,hI⟩;have hJ:=hid (show Rd w13 w13.heap.size A13 13 (frameB 3 0 3 (be 7 4))from hG);have hK:=hid (show CN w13 ow13 b s5 L13 from hH);have hL:=hid (hF.out.trans hI);rw[show s4.out.length=13 from rfl];clear hZ hG Hl hH hI hF hE;go_wp2_with fail;refine(lawNumber_any 7 w13 (by decide)).mono ?_;rintro e w14 ⟨rfl,hb,hM⟩;have h5:w13.heap.size<w14.heap.size:=by
  obtain⟨ad2,e2,ge,hc⟩:=hb.2 (by decide);injection e2 with e2
  subst e2;exact(World.block_lt_of_cell? w14 _ (hc 0 (by decide)))
 have hN:=hid (hb.more h5);have hd:=hid hM;clear hb hM h5;go_wp2_with fail;refine(lawFrame_any (some ⟨w13.heap.size,0,none⟩) 4 4 3 0 3 w14.heap.size (be 7 4) w14 hN.out (Nat.le_refl _) (by decide) (by decide) (by decide) (by decide)).mono ?_;rintro e w15 ⟨A15,c15,rfl,hO,hP⟩;have h4:=hid (hd.out.trans (hP.mono hd.out.size));have hQ:=hid hO.rd;have h6:=hid (hJ.out.below h4.out);have he:=hid (hK.out.below h4.out);have hR:=hid (hL.out.trans (Fr.below h4.out ow13));clear hO hP hd hN hJ hK hL h4;go_wp2_with fail;refine(sameBytes_any A13 A15 13 13 c13 c15 _ _ w15 _ _ h6.out hQ.out).mono ?_;rintro e w16 ⟨rfl,hw⟩;subst w16;rw[show decide (frameB 3 0 3 (be 7 4)=frameB 3 0 3 (be 7 4))=true from decide_eq_true rfl];clear h6 hQ;go_wp2_with fail;refine(lawFrame_any none 0 0 0 0 9 w15.heap.size [] w15 ⟨rfl,λh=>absurd h (by omega)⟩ (Nat.le_refl _) (by decide) (by decide) (by decide) (by decide)).mono ?_;rintro e w17 ⟨A17,c17,rfl,hS,hf⟩;have hh:=hid hS;have hT:=hid (he.out.below hf);have hi:=hid (hR.out.trans (Fr.below hf ow13));have hU:=hid ((HE.out.of H1.out H2.out).fr hi.out);clear hS hf;go_wp2_with fail;refine(feed_any w17 ow13 b s5 L13 _ 1 A17 _ c17 _ hU.out hT.out hh.out.rd (hh.out.tagged he.out.new) rfl (by show 0+(9+0)<=_;decide) runs3).mono ?_;rintro e w18 ⟨M18,A18,c18,ow18,L18,rfl,rfl,H0,hV,hX,h0,_,_⟩;rw[show s6.evs.length=1 from rfl]at h0 ⊢;obtain⟨ad3,_,rfl,_⟩:=h0.at2 (j:=0) (by decide);have k00:w18.cell? ad3=some (.int .i64 8):=(ev_at h0 (j:=0) (x:={kind:=8,code:=1}) rfl).1;have Hm:=hid hV;have Hn:=hid (hi.out.trans hX);have HK:=hid k00;clear H0 hV hX h0 k00 hT hi hU hh he hR;go_wp2_with fail;refine(dead_any w18 ow18 b _ L18 Hm.out).mono ?_;rintro e w19 ⟨rfl,m,rfl⟩;have k00:(w18.drewN m).cell? ad3=some (.int .i64 8):=HK.out;rw[show((({s6 with evs:=[]}:Cv).code:Nat):Int)=1 from rfl,show({s6 with evs:=[]}:Cv).dead=true from rfl];go_wp2;go_ret;exact⟨rfl,(Hn.out.trans (Fr.drewN w18 ow18 m)).toBelow H1.out H2.out⟩
end Go.Proofs.YtkpppjhbmnfmkaaGreatDoor
end

section
set_option maxHeartbeats 8000000
set_option maxRecDepth 100000
namespace Go.Proofs.YtkpppjhbmnfmkaaGreatDoor
open Lib (hid)
open Go.RowKit Go.Own Go.Own.Im Go.Own.Cx Go.Own.Fr Go.Own.Hd
structure EnvS (w:World) (a1 a2:Addr):Prop where
 wd:EnvW w
 role:w.cell? ⟨1,0,none⟩=some (.iface 327 (.pointer (some a1)))
 num:w.cell? ⟨2,0,none⟩=some (.iface 327 (.pointer (some a2)))
theorem EnvS.below {w w':World} {a1 a2:Addr} (h:EnvS w a1 a2) (hb:Below w.heap.size w w'):EnvS w' a1 a2:=
 ⟨h.wd.below hb,(hb.cell (p:=⟨1,0,none⟩) (Nat.lt_of_lt_of_le (by decide:1<20) h.wd.room)).trans h.role,(hb.cell (p:=⟨2,0,none⟩) (Nat.lt_of_lt_of_le (by decide:2<20) h.wd.room)).trans h.num⟩
theorem new_role (w:World) (side cw cs:Int) {a1 a2:Addr} (hE:EnvS w a1 a2) (h1:side≠1) (h2:side≠2):
 Calls Tryz.prog 9 #[.int .i64 side,.agg #[.int .i64 cw,.int .i64 cs]] w λe w'=>e= .returned (.tuple #[.pointer none,.iface 327 (.pointer (some a1))])/\Below w.heap.size w w':=by
 have k1:(side != 1)=true:=by simpa using h1
 have k2:(side != 2)=true:=by simpa using h2
 have h0:=hid ((Below.refl w.heap.size w).alloc (Nat.le_refl _) (.cells #[.int .i64 cw,.int .i64 cs] 32));have h3:=(hE.below h0.out).role;clear h1 h2;go_enter Tryz.func9,Tryz.ntmps9;go_upto_region 1 with fail;generalize w.alloc (.cells #[.int .i64 cw,.int .i64 cs] 32)=W0 at*
 go_wp2_with fail;go_quiet (fail);go_wp2;go_ret2;exact⟨rfl,bdN h0.out _⟩
def badC (cw cs:Int):Prop:=cw<0\/2147483647<cw\/cs<0\/100<cs
theorem new_number (w:World) (side cw cs:Int) {a1 a2:Addr} (hE:EnvS w a1 a2) (hs:side=1\/side=2) (hb:badC cw cs):
 Calls Tryz.prog 9 #[.int .i64 side,.agg #[.int .i64 cw,.int .i64 cs]] w λe w'=>e= .returned (.tuple #[.pointer none,.iface 327 (.pointer (some a2))])/\Below w.heap.size w w':=by
 have h0:=hid ((Below.refl w.heap.size w).alloc (Nat.le_refl _) (.cells #[.int .i64 cw,.int .i64 cs] 32));have HX:=hid (Blk.new w 32 #[.int .i64 cw,.int .i64 cs]);have h1:=(hE.below h0.out).num;have k:(cw<0)=True\/((cw<0)=False/\(2147483647<cw)=True)\/((cw<0)=False/\(2147483647<cw)=False/\(cs<0)=True)\/((cw<0)=False/\(2147483647<cw)=False/\(cs<0)=False/\(100<cs)=True):=by
  unfold badC at hb;simp only[eq_iff_iff,iff_true,iff_false];omega
 clear hb;rcases hs with rfl|rfl<;>rcases k with k1|⟨k1,k2⟩|⟨k1,k2,k3⟩|⟨k1,k2,k3,k4⟩
 all_goals
  go_enter Tryz.func9,Tryz.ntmps9;go_upto_region 1 with fail;generalize w.alloc (.cells #[.int .i64 cw,.int .i64 cs] 32)=W0 at*
  have x0:W0.cell? ⟨w.heap.size,0,none⟩=some (.int .i64 cw):=HX.out.cell 0;have x1:W0.cell? ⟨w.heap.size,1,none⟩=some (.int .i64 cs):=HX.out.cell 1;go_wp2_with fail;go_quiet (fail);go_wp2;go_ret2;exact⟨rfl,bdN h0.out _⟩
end Go.Proofs.YtkpppjhbmnfmkaaGreatDoor
end

section
namespace Go.Own
open Go.RowKit Go.WideShapes Go.ChangeShapes Go.Joins Go.Deep Go.WideElems
section
variable {H:Type} {enc:TypeId×Value->H} {P:Program} {w:World} {base:Nat} {spare:Nat->Bool} {held:Bool}
theorem open_pair {r:Reach} {b0:Nat} {t ti:TypeId} {f0 f1:Field} {v:Value} {d:DataW H} {p:List MemPlace} (hs:P.underlying t=some (.struct #[f0,f1])) (hone:oneCellFields P #[f0,f1]=true) (hC:P.cellsOf t=2)
 (e0:f0.type=ti) (e1:f1.type=ti) (hi:P.underlying ti=some (.int .i64)) (hv:Value.okWide P w r b0 t v) (h:DataW.Trod enc P w base spare held t v d p):
 ∃a b:Int,v= .agg #[.int .i64 a,.int .i64 b]/\d= .agg [.lit (.int .i64 a),.lit (.int .i64 b)]/\p=[]/\(Lit.int .i64 a).wf=true/\(Lit.int .i64 b).wf=true:=by
 obtain⟨c0,c1,y0,y1,m,rfl,rfl,rfl,hy0,hy1⟩:=open_agg2 hs hone hC hv h;rw[e0]at hy0;rw[e1]at hy1;obtain⟨a,h0,rfl,wa⟩:=DataW.trod_int hi hy0;obtain⟨b,h1,rfl,wb⟩:=DataW.trod_int hi hy1;simp at h0 h1;subst h0 h1;exact⟨a,b,rfl,rfl,rfl,wa,wb⟩
theorem shut_pair {t ti:TypeId} {f0 f1:Field} {a b:Int} (hs:P.underlying t=some (.struct #[f0,f1])) (hone:oneCellFields P #[f0,f1]=true) (hC:P.cellsOf t=2)
 (e0:f0.type=ti) (e1:f1.type=ti) (hi:P.underlying ti=some (.int .i64)) (wa:(Lit.int .i64 a).wf=true) (wb:(Lit.int .i64 b).wf=true):
 DataW.Trod enc P w base spare held t (.agg #[.int .i64 a,.int .i64 b]) (.agg [.lit (.int .i64 a),.lit (.int .i64 b)]) []:=
 shut_agg2 (y0:=(.lit (.int .i64 a),[])) (y1:=(.lit (.int .i64 b),[])) hs hone hC ⟨1,by rw[e0];simp[DataW.trod,hi,wa]⟩ ⟨1,by rw[e1];simp[DataW.trod,hi,wb]⟩
end
theorem sentinel_full {P:Program} {W:World} {l:List (String×DataW Unit)} {n:String} {text:List UInt8} {g ti tp te ts:Nat} {ms:Array (String×TypeId)} {f:Field} (h:laidMet P l W)
 (hm:(n,DataW.iface "*errors.errorString" (.ptr (.agg [.lit (.string text)])))∈l) (hg:P.globalNamed n=some g) (ht:(P.globals[g]?).map (·.type)=some ti)
 (hi:P.underlying ti=some (.interface ms)) (hrow:∀u,P.typeName? 3 u=some "*errors.errorString" ->u=tp)
 (hp:P.underlying tp=some (.pointer te)) (he:P.underlying te=some (.struct #[f])) (hft:f.type=ts) (hfo:f.offset=0) (hs:P.underlying ts=some .string) (hc:P.cellsOf te=1) (hcs:P.cellsOf ts=1):
 ∃a s,W.cell? ⟨g,0,none⟩=some (.iface tp (.pointer (some a)))/\W.cell? a=some (.string s)/\s.data.toList=text/\∃c t,W.heap[a.block]?=some (.cells c t (0,0)):=by
 obtain⟨ps,hl,_,hrows⟩:=h;obtain⟨g',t,cs,fuel,p,hg',ht',hv,hd,hin⟩:=laidVars_mem hl hm;obtain rfl:=Option.some.inj (hg.symm.trans hg');obtain rfl:=Option.some.inj (ht.symm.trans ht');obtain⟨lc⟩:=cs;have ok:∀u v,lc=[.iface u v]->Value.okWide P W .any 0 u v:=λu v e=>by
  subst e;exact(hrows g 0 (hin _ (by simp[MemPlace.row]))).2 u v (by simpa using World.var?_cell hg hv 0)
 obtain⟨a,s,hcs',hcell,htx,_,hpl⟩:=errorString_of_trod hi hrow hp he hft hfo hs hc hcs hd ok;refine⟨a,s,?_,hcell,htx,(hrows a.block a.off (hin _ (by rw[hpl];simp[MemPlace.row]))).1⟩;have:=World.var?_cell hg hv 0;have hcs2:lc=[.iface tp (.pointer (some a))]:=hcs';rw[this,hcs2]
 rfl
end Go.Own
namespace Go.Proofs.YtkpppjhbmnfmkaaGreatDoor
open Go.RowKit Go.Own Go.ChangeShapes Go.WideShapes
theorem sentF {W:World} {l:List (String×DataW Unit)} {n:String} {text:List UInt8} {g:Nat} (h:laidMet Tryz.prog l W)
 (hm:(n,DataW.iface "*errors.errorString" (.ptr (.agg [.lit (.string text)])))∈l) (hg:Tryz.prog.globalNamed n=some g) (ht:(Tryz.prog.globals[g]?).map (·.type)=some 28):
 ∃a s,W.cell? ⟨g,0,none⟩=some (.iface 327 (.pointer (some a)))/\W.cell? a=some (.string s)/\s.data.toList=text/\∃c t,W.heap[a.block]?=some (.cells c t (0,0)):=
 sentinel_full h hm hg ht Tryz.underlying28 rowErr Tryz.underlying327 Tryz.underlying329 rfl rfl Tryz.underlying9 cellsErr cellsStr
theorem tab_eq:(Rows.laid_internal_strconv_uint64pow10:DataW Unit)=Lib.tabData .u64 Lib.pow10Tab:=by kernel_rfl
theorem envS_of {W:World} {l:List (String×DataW Unit)} (h:laidMet Tryz.prog l W) (hsh:W.ShapedOpen Tryz.prog)
 (h1:("parley/api.ErrHead",Rows.laid_parley_api_ErrHead)∈l) (h2:("strconv.ErrSyntax",Rows.laid_strconv_ErrSyntax)∈l) (h3:("strconv.ErrRange",Rows.laid_strconv_ErrRange)∈l)
 (h4:("parley/api.ErrEnd",Rows.laid_parley_api_ErrEnd)∈l) (h5:("parley/api.ErrLong",Rows.laid_parley_api_ErrLong)∈l) (h8:("parley/api.ErrRole",Rows.laid_parley_api_ErrRole)∈l) (h9:("parley/api.ErrNumber",Rows.laid_parley_api_ErrNumber)∈l)
 (h6:("internal/strconv.uint64pow10",Rows.laid_internal_strconv_uint64pow10)∈l) (h7:("parley/api.ErrHuff",Rows.laid_parley_api_ErrHuff)∈l)
 (h10:("parley/api.ErrIndex",Rows.laid_parley_api_ErrIndex)∈l) (h11:("parley/api.ErrTable",Rows.laid_parley_api_ErrTable)∈l) (h12:("parley/api.ErrList",Rows.laid_parley_api_ErrList)∈l) (h13:("parley/api.ErrGone",Rows.laid_parley_api_ErrGone)∈l) (h14:("parley/api.ErrWindow",Rows.laid_parley_api_ErrWindow)∈l):∃a1 a2,EnvS W a1 a2:=by
 obtain⟨a1,c1⟩:=sent (g:=0) h h1 (by kernel_rfl) (by kernel_rfl);obtain⟨a2,c2⟩:=sent (g:=14) h h2 (by kernel_rfl) (by kernel_rfl);obtain⟨a3,c3⟩:=sent (g:=15) h h3 (by kernel_rfl) (by kernel_rfl);obtain⟨a4,s4,c4,t4,x4,b4⟩:=sentF (g:=10) h h4 (by kernel_rfl) (by kernel_rfl);obtain⟨a5,s5,c5,t5,x5,b5⟩:=sentF (g:=5) h h5 (by kernel_rfl) (by kernel_rfl);obtain⟨a8,c8⟩:=sent (g:=1) h h8 (by kernel_rfl) (by kernel_rfl);obtain⟨a9,c9⟩:=sent (g:=2) h h9 (by kernel_rfl) (by kernel_rfl);have hne:a4≠a5:=λe=>by
  rw[e,t5]at t4;injection t4 with t4
  injection t4 with t4
  rw[t4,x4]at x5;exact absurd x5 (by decide)
 obtain⟨m,cm⟩:=Go.Proofs.cell_of_shapedOpen_int (P:=Tryz.prog) (g:=13) (zero:=#[.int .i64 0]) (t:=3) hsh (of_decide_eq_true (by kernel_rfl)) (by kernel_rfl) rfl (by kernel_rfl) (by kernel_rfl) Tryz.underlying3;have r2:=Lib.laidMet.reads h h6;rw[tab_eq]at r2;obtain⟨g,t,cs,fuel,p,hg,hty,hvar,hd⟩:=r2;obtain rfl:=Option.some.inj ((show Tryz.prog.globalNamed "internal/strconv.uint64pow10" =some 17 by kernel_rfl).symm.trans hg);obtain rfl:=Option.some.inj ((show(Tryz.prog.globals[17]?).map (·.type)=some 331 by kernel_rfl).symm.trans hty);have hcs:=Lib.cells_of_tab Tryz.underlying331 Tryz.underlying228 (by kernel_rfl) (by kernel_rfl) hd;have hroom:20<=W.heap.size:=by
  obtain⟨o,_,ho,_⟩:=hsh.2 (Tryz.prog.globals.size) (Nat.le_refl _) (of_decide_eq_true (by kernel_rfl));have h1:=(Array.getElem?_eq_some_iff.1 ho).1;have h2:20<=Tryz.prog.globals.size:=of_decide_eq_true (by kernel_rfl);omega
 obtain⟨ahf,chf⟩:=sent (g:=16) h h7 (by kernel_rfl) (by kernel_rfl);obtain⟨aix,cix⟩:=sent (g:=12) h h10 (by kernel_rfl) (by kernel_rfl);obtain⟨atb,ctb⟩:=sent (g:=8) h h11 (by kernel_rfl) (by kernel_rfl);obtain⟨als,cls⟩:=sent (g:=6) h h12 (by kernel_rfl) (by kernel_rfl);obtain⟨agn,cgn⟩:=sent (g:=3) h h13 (by kernel_rfl) (by kernel_rfl);obtain⟨awn,cwn⟩:=sent (g:=11) h h14 (by kernel_rfl) (by kernel_rfl);refine⟨a8,a9,⟨⟨hroom,⟨a1,a2,a3,c1,c2,c3,⟨m,cm⟩,?_,hroom⟩,⟨a4,a5,hne,c4,c5,b4,b5⟩,⟨hroom,⟨_,c5⟩,⟨_,c4⟩,⟨_,cix⟩,⟨_,ctb⟩,⟨_,cls⟩,⟨_,chf⟩,⟨_,cgn⟩,⟨_,cwn⟩,m,cm⟩⟩,c8,c9⟩⟩;unfold Lib.TabIs;rw[hvar,<-hcs]
end Go.Proofs.YtkpppjhbmnfmkaaGreatDoor
end

section
namespace Go.Proofs.YtkpppjhbmnfmkaaGreatDoor
open Go.RowKit Go.Own Go.Own.Im Go.Own.Cx Go.Own.Fr Go.Own.Hd
def WC (w:World) (A:Option Addr) (k n:Nat):Prop:=∀j,j<n->∃ad v,A=some ad/\w.cell? (ad.add (j*k))=some v/\w.frozen? (ad.add (j*k))=false
theorem WC.set {w:World} {A:Option Addr} {k n:Nat} (h:WC w A k n) (p:Addr) (u:Value):WC (w.setCell p u) A k n:=λj hj=>by
 obtain⟨ad,v,h1,h2,h3⟩:=h j hj;by_cases e:p=ad.add (j*k)
 · subst e
   exact⟨ad,u,h1,World.cell?_setCell_same _ _ _ h2,by rw[World.frozen?_setCell];exact h3⟩
 · exact⟨ad,v,h1,(World.cell?_setCell_other _ _ _ _ e).trans h2,by rw[World.frozen?_setCell];exact h3⟩
theorem WC.of_rd {w:World} {A:Option Addr} {B n:Nat} {l:List UInt8} (h:Rd w B A n l) (hu:∀ad,A=some ad->UF w ad.block):WC w A 1 n:=λj hj=>by
 obtain⟨ad,e,_,hc⟩:=h.2 (by omega);refine⟨ad,_,e,by rw[Nat.mul_one];exact hc j hj,?_⟩;rw[Nat.mul_one];have h9:=hu ad e (ad.add j).off;unfold World.frozen? at h9 ⊢;rw[add_block];exact h9
structure Duo (w0 w:World) (oc:Nat->Tg) (bc:Nat) (Mc:Cv) (Lc:Lay) (os:Nat->Tg) (bs:Nat) (Ms:Cv) (Ls:Lay):Prop where
 c:CN w oc bc Mc Lc
 s:CN w os bs Ms Ls
 dis:∀g,os g≠ .no->oc g= .no
 old:∀g,g<w0.heap.size->oc g= .no/\os g= .no
 b:Below w0.heap.size w0 w
section
variable {w0 w w':World} {oc oc' os os':Nat->Tg} {bc bs:Nat} {Mc Mc' Ms Ms':Cv} {Lc Lc' Ls Ls':Lay}
theorem Duo.cstep (h:Duo w0 w oc bc Mc Lc os bs Ms Ls) (hc:CN w' oc' bc Mc' Lc') (hf:Fr w oc w' oc'):Duo w0 w' oc' bc Mc' Lc' os bs Ms Ls:=by
 have h0:∀g,os g≠ .no->g<w.heap.size:=λg hg=>by
  rcases Nat.lt_or_ge g w.heap.size with h1|h1
  · exact h1
  · exact absurd (h.s.new g h1) hg
 refine⟨hc,h.s.keep hf.size λg hn hl=>hf.keep g hl (h.dis g hn),λg hg=>hf.no g (h0 g hg) (h.dis g hg),λg hg=>⟨hf.no g (Nat.lt_of_lt_of_le hg h.b.size) (h.old g hg).1,(h.old g hg).2⟩,?_⟩;exact hf.toBelow h.b λg hg=>(h.old g hg).1
theorem Duo.below (h:Duo w0 w oc bc Mc Lc os bs Ms Ls) (hb:Below w.heap.size w w'):Duo w0 w' oc bc Mc Lc os bs Ms Ls:=
 ⟨h.c.below hb,h.s.below hb,h.dis,h.old,h.b.trans (hb.mono h.b.size)⟩
theorem Duo.user (h:Duo w0 w oc bc Mc Lc os bs Ms Ls) {g:Nat} (hg:w.grownBy w' (some g)) (h0:w0.heap.size<=g) (hc:oc g= .no) (hs:os g= .no):Duo w0 w' oc bc Mc Lc os bs Ms Ls:=
 ⟨h.c.keep hg.size λj hn hl=>hg.block j hl (λe=>by injection e with e;subst e;exact hn hc),h.s.keep hg.size λj hn hl=>hg.block j hl (λe=>by injection e with e;subst e;exact hn hs),h.dis,h.old,
   ⟨hg.os.trans h.b.os,hg.tape.trans h.b.tape,hg.output.trans h.b.output,Nat.le_trans h.b.size hg.size,λj hj=>(hg.block j (Nat.lt_of_lt_of_le hj h.b.size) (λe=>by injection e with e;omega)).trans (h.b.block j hj)⟩⟩
end
end Go.Proofs.YtkpppjhbmnfmkaaGreatDoor
end

section
namespace Go.Proofs.YtkpppjhbmnfmkaaGreatDoor
open Go.RowKit Go.Own Go.Own.Im Go.Own.Cx Go.Own.Fr Go.Own.Hd
end Go.Proofs.YtkpppjhbmnfmkaaGreatDoor
end
