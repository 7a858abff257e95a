import Derived.Test.YtkpppjhbmnfmkaaGreatDoorJbh
import Derived.Test.YtkpppjhbmnfmkaaGreatDoorJaa
import Derived.Test.YtkpppjhbmnfmkaaGreatDoorJab
import Derived.Deep.RegionLaw
import Derived.Deep.CutBlock
set_option linter.unusedSimpArgs false
set_option linter.unusedVariables false
set_option maxHeartbeats 16000000
set_option maxRecDepth 100000
namespace Go.Proofs.YtkpppjhbmnfmkaaGreatDoor
open Lib (hid)
open Go.RowKit Go.Own Go.Own.Im Go.Own.Cx Go.Own.Fr Go.Own.Hd
theorem duo_two {w w2 w3:World} {oc os:Nat->Tg} {bc bs:Nat} {Mc Ms:Cv} {Lc Ls:Lay} (h0:Below w.heap.size w w2) (hc:CN w2 oc bc Mc Lc) (ho:∀g,g<w.heap.size->oc g= .no) (hs:CN w3 os bs Ms Ls) (hb:Below w2.heap.size w2 w3) (h2:∀g,g<w2.heap.size->os g= .no):Duo w w3 oc bc Mc Lc os bs Ms Ls:=
 ⟨hc.below hb,hs,λg hg=>by
   rcases Nat.lt_or_ge g w2.heap.size with h1|h1
   · exact absurd (h2 g h1) hg
   · exact hc.new g h1,λg hg=>⟨ho g hg,h2 g (Nat.lt_of_lt_of_le hg h0.size)⟩,h0.trans (hb.mono h0.size)⟩
def allB (st:Bool) (side:Nat) (l:List UInt8):List UInt8:=if st then helB side++l else l
theorem allB_len (st:Bool) (side:Nat) (l:List UInt8) (h:l.length<=16384):(allB st side l).length<=16417:=by
 have:=helB_len side;unfold allB
 split
 · rw[List.length_append];omega
 · omega
structure AllS (w3 w:World) (A:Option Addr) (N c:Nat) (L:List UInt8):Prop where
 rd:Rd w w.heap.size A N L
 cap:N<=c
 new:0<N->∀ad,A=some ad->w3.heap.size<=ad.block
 b:Below w3.heap.size w3 w
theorem all_oz {w3 w:World} {N c:Nat} {A:Option Addr} {L:List UInt8} (h:Oz w (λg=>w3.heap.size<=g) (.slice A N c) L) (hb:Below w3.heap.size w3 w):AllS w3 w A N c L:=by
 have hc:N<=c:=by
  obtain⟨A',c',e,h1,_⟩:=h.form;injection e with _ e2 e3
  omega
 refine⟨h.rd,hc,λh0 ad ha=>?_,hb⟩;obtain⟨A',c',e,h1,h2,h3⟩:=h;injection e with e1 e2 e3
 subst e1;subst e3;obtain⟨g,off,e2,ho,_⟩:=h3 (by omega);rw[ha]at e2;injection e2 with e2
 subst e2;exact ho
theorem all_ow {w3 w:World} {N c:Nat} {A:Option Addr} {L:List UInt8} (h:Ow w w3.heap.size 5 (.slice A N c) N L) (hb:Below w3.heap.size w3 w):AllS w3 w A N c L:=by
 have hc:N<=c:=by
  obtain⟨A',c',e,h1,_⟩:=h.form;injection e with _ e2 e3
  omega
 exact⟨h.rd,hc,λh0 ad ha=>(h.lt (g:=ad.block) (by rw[ha];rfl)).2,hb⟩
theorem wc_keep {w w':World} {A:Option Addr} {k n:Nat} (h:WC w A k n) (hh:∀ad,A=some ad->w'.heap[ad.block]?=w.heap[ad.block]?):WC w' A k n:=λj hj=>by
 obtain⟨ad,v,h1,h2,h3⟩:=h j hj;have e:=hh ad h1;exact⟨ad,v,h1,(World.cell?_of_block (a:=ad.add (j*k)) (by rw[add_block];exact e)).trans h2,(World.frozen?_of_block (a:=ad.add (j*k)) (by rw[add_block];exact e)).trans h3⟩
theorem grown_cell (w:World) (p:Addr) (v:Value):w.grownBy (w.setCell p v) (some p.block):=
 ⟨rfl,rfl,rfl,by simp[World.setCell],λi _ hne=>Below.heap_setCell w p v i (λe=>hne (by rw[e]))⟩
theorem rd_keep {w w':World} {A:Option Addr} {n:Nat} {l:List UInt8} (h:Rd w w.heap.size A n l) (hs:w.heap.size<=w'.heap.size) (hk:0<n->∀ad,A=some ad->w'.heap[ad.block]?=w.heap[ad.block]?):Rd w' w'.heap.size A n l:=
 ⟨h.1,λhn=>by
   obtain⟨ad,e,h0,hc⟩:=h.2 hn;exact⟨ad,e,Nat.lt_of_lt_of_le h0 hs,λj hj=>(World.cell?_of_block (a:=ad.add j) (by rw[add_block];exact hk hn ad e)).trans (hc j hj)⟩⟩
theorem zp1 (i:Nat) (h:i<=1000000000000):wrap64 ((i:Int)+1)=((i+1:Nat):Int):=by unfold wrap64;omega
theorem wsubN (N a r:Nat) (h:a<=N) (hN:N<=1000000) (e:N-a=r):wrap64 ((N:Int)-(a:Int))=(r:Int):=by unfold wrap64;omega
theorem waddN (a k e:Nat) (h:a+k=e) (he:e<=1000000):wrap64 ((a:Int)+(k:Int))=(e:Int):=by unfold wrap64;omega
theorem and63 (z:Int):∃q:Nat,bits .and .i64 z 63=(q:Int):=⟨(z % 64).toNat,by rw[i64_and63];omega⟩
theorem minN (q r k:Nat) (h:min q r=k):min (q:Int) (r:Int)=(k:Int):=by omega
theorem ri_own {w:World} {base n c:Nat} {A:Option Addr} {zs:List Int} (h:w.ownsRow base 3 1 (.slice A n c) n (zs.map encZ)):Ri w w.heap.size A n zs:=by
 have hl:zs.length=n:=by simpa using h.1
 refine⟨hl,λhn=>?_⟩;rcases h.2 with⟨e,h0⟩|⟨g,cap,cur,e,hb,hg,_⟩
 · omega
 · injection e with e1 e2 e3
   subst e1;refine⟨⟨g,0,none⟩,rfl,(Array.getElem?_eq_some_iff.1 hg).1,λj hj=>?_⟩;have h9:=World.ownsRow.cells h (g:=g) rfl j (encZ (zs.getD j 0)) (by simp[List.getD,List.getElem?_eq_getElem (show j<zs.length by omega)]);exact h9
theorem pieces_ok (w:World) {a1 a2:Addr} (hE:EnvS w a1 a2) (side cw cs:Nat) (hs:side=1\/side=2) (hw:cw<=2147483647) (Gz:cs<=100) (st:Bool) (A:Option Addr) (n c:Nat) (l:List UInt8) (hr:Rd w w.heap.size A n l) (hn:n<=16384) (A2:Option Addr) (m c2:Nat) (zs:List Int) (hz:Ri w w.heap.size A2 m zs) (hm:m<=200):
 Calls Tryz.prog 4 #[.int .i64 (side:Nat),.agg #[.int .i64 (cw:Nat),.int .i64 (cs:Nat)],.bool st,.slice A n c,.slice A2 m c2] w λe w'=>e= .returned (.bool true)/\Below w.heap.size w w':=by
 have HE:=hid hE;have HX:=hid (Blk.new w 32 #[.int .i64 (cw:Nat),.int .i64 (cs:Nat)]);have gO:=hid ((Below.refl w.heap.size w).alloc (Nat.le_refl _) (.cells #[.int .i64 (cw:Nat),.int .i64 (cs:Nat)] 32));have HH:=hid (show _/\_/\_/\_/\_ from⟨hs,hw,Gz,hn,hm⟩);have HR:=hid hr;have HZ:=hid hz;have k0:((16384:Int)<(n:Int))=False:=by simp;omega
 have k1:((200:Int)<(m:Int))=False:=by simp;omega
 have gP:=hid (show l.length=n from hr.1);clear hE hs hw Gz hr hn hz hm;go_enter Tryz.func4,Tryz.ntmps4;go_upto_region 1 with fail;generalize w.alloc (.cells #[.int .i64 (cw:Nat),.int .i64 (cs:Nat)] 32)=W0 at*
 go_wp2_with fail;refine(first_any W0 (HE.out.below gO.out).wd).mono ?_;rintro e w1 ⟨rfl,G4⟩;have gQ:=hid (gO.out.trans (G4.mono gO.out.size));have g4:=hid (HX.out.below G4 HX.out.lt);clear G4;have x0:w1.cell? ⟨w.heap.size,0,none⟩=some (.int .i64 (cw:Nat)):=g4.out.cell 0;have x1:w1.cell? ⟨w.heap.size,1,none⟩=some (.int .i64 (cs:Nat)):=g4.out.cell 1;go_wp2_with fail;refine(new_any w1 side cw cs HH.out.1 HH.out.2.1 HH.out.2.2.1).mono ?_;rintro e w2 ⟨bx,ox,Lx,rfl,GA,G5,GB⟩;have GC:=hid (gQ.out.trans (G5.mono gQ.out.size));have G6:=hid (g4.out.below G5 g4.out.lt);have GD:=hid GA;have GE:=hid (show∀g,g<w.heap.size->ox g= .no fromλg hg=>GB g (Nat.lt_of_lt_of_le hg gQ.out.size));clear x0 x1 G5 GA GB;have x0:w2.cell? ⟨w.heap.size,0,none⟩=some (.int .i64 (cw:Nat)):=G6.out.cell 0;have x1:w2.cell? ⟨w.heap.size,1,none⟩=some (.int .i64 (cs:Nat)):=G6.out.cell 1;go_wp2_with fail;refine(new_any w2 side cw cs HH.out.1 HH.out.2.1 HH.out.2.2.1).mono ?_;rintro e w3 ⟨bz,oy,Ly,rfl,GF,GG,GH⟩;have Hg:=hid (duo_two GC.out GD.out GE.out GF GG GH);have HB:=hid (live_new side cw cs HH.out.1 HH.out.2.1);have GI:=hid (show(newM side cw cs).fed=[]from rfl);have G7:=hid (show∀g,w3.heap.size<=g->ox g= .no/\oy g= .no/\w.heap.size<=g fromλg hg=>⟨Hg.out.c.new g hg,Hg.out.s.new g hg,Nat.le_trans Hg.out.b.size hg⟩);generalize newM side cw cs=M0 at*
 clear x0 x1 GG GF GH GD GE GC G6 g4 HX gQ gO;go_wp2_with fail;refine(bytes_any A n c l w3 w.heap.size (HR.out.below Hg.out.b) Hg.out.b.size (by have:=HH.out.2.2.2.1;omega)).mono ?_;rintro e w4 ⟨rfl,GJ,G8⟩;have GK:=hid GJ;have HC:=hid G8;have GL:=hid (HR.out.below (Hg.out.b.trans (G8.mono Hg.out.b.size)));clear GJ G8;go_upto_region 9 with fail;obtain⟨L,hL⟩:∃L,allB st side l=L:=⟨_,rfl⟩;obtain⟨N,hN⟩:∃N,L.length=N:=⟨_,rfl⟩;have HL:=hid (And.intro hL hN);have HN:=hid (show N<=16417 by rw[<-hN,<-hL];exact allB_len st side l (by rw[gP.out];exact HH.out.2.2.2.1));clear hL hN;go_cut [80]from 80 to 80 (λv wx=>Hid (v= .bool st/\wx=w4))
 case first=>
  as_aux_lemma=>
  go_wp2_with fail;go_meet;exact hid ⟨rfl,rfl⟩
 case rest=>
  obtain⟨rfl,yl⟩:=hcut.out;obtain rfl:=yl.symm;clear hcut;rename_i hK;refine hK _ _ ?_;go_cut [16,80]from 81 to 84 (λv u wx=>Hid (u= .bool st/\∃A6 c6,v= .slice A6 N c6/\AllS w3 wx A6 N c6 L))
  case first=>
   cases st with
   |true=>
    as_aux_lemma=>
    have Gr:(helB side).length+n<=140737488355328:=by have:=helB_len side;have:=HH.out.2.2.2.1;omega
    go_wp2_with fail;refine(hello_any w4 side HH.out.1).mono ?_;rintro e w5 ⟨A5,c5,rfl,GM,G9⟩;have ym:=hid GM;have Ga:=hid (HC.out.trans (G9.mono HC.out.size));have yn:=hid ((GL.out.below (G9.mono (by have:=Hg.out.b.size;have:=HC.out.size;omega))));clear GM G9;go_wp2_with (first
     |(at_builtin
       refine wpList_app_z byteP _ rfl (.tmp 82) (.tmp 83) rfl (λg=>w4.heap.size<=g) (.slice A5 (helB side).length c5) (helB side) rfl ym.out w.heap.size A n c l rfl yn.out Gr ?_;intro A6 c6 w6 row6 GN GO GP;have yo:=hid GN;have yp:=hid GO;have yq:=hid GP;clear GN GO GP)
     |fail)
    go_meet;refine hid ⟨rfl,A6,c6,?_,?_⟩
    · obtain⟨h1,h2⟩:=HL.out
      rw[<-h2,<-h1,allB,if_pos rfl,List.length_append,gP.out]
    · obtain⟨h1,h2⟩:=HL.out
      have Gb:=yo.out.owned (own':=λg=>w3.heap.size<=g) (λg _ h=>by
       rcases h with h|⟨_,h⟩
       · exact Nat.le_trans HC.out.size h
       · rw[h];exact Ga.out.size)
      have e:helB side++l=L:=h1;rw[e]at Gb;have eN:(helB side).length+n=N:=by rw[<-h2,<-e,List.length_append,gP.out]
      rw[eN]at Gb;exact all_oz Gb (Ga.out.grown yp.out Ga.out.size (λg e=>Nat.le_trans HC.out.size (yq.out g e).1))
   |false=>
    as_aux_lemma=>
    go_wp2_with fail;go_meet;obtain⟨h1,h2⟩:=HL.out;have e:l=L:=h1;have eN:n=N:=by rw[<-h2,<-e,gP.out]
    refine hid ⟨rfl,some ⟨w3.heap.size,0,none⟩,n,by rw[eN],?_⟩;have ho:=GK.out;rw[e]at ho;have h9:=all_ow ho HC.out;rw[eN]at h9 ⊢;exact h9
  case rest=>
   obtain⟨rfl,A6,c6,rfl,gf⟩:=hcut.out;clear hcut hK;rename_i hK K2;refine hK _ _ ?_;clear hK;have h8:=hid gf;clear gf;obtain⟨B7,gR⟩:∃B,wc.heap.size=B:=⟨_,rfl⟩;have g1:=hid gR;go_wp2_with fail;refine(bytes_any A6 N c6 L wc wc.heap.size h8.out.rd (Nat.le_refl _) (by have:=HN.out;omega)).mono ?_;rintro e w7 ⟨rfl,Gc,Gd⟩;rw[gR]at Gc ⊢;have gg:=hid Gd;have gS:=hid (show B7<=w7.heap.size from by rw[<-gR];exact Gd.size);have g5:=hid (Rd.lits w7 #[.int .u8 47,.int .u8 11] [47,11] 5 rfl);have gh:=hid (Gc.alloc (.cells #[.int .u8 47,.int .u8 11] 5));have g6:N+2<=140737488355328:=by have:=HN.out;omega
   clear Gc Gd gR;go_wp2_with (first
    |(at_builtin
      refine wpList_app_any _ byteP rfl (.tmp 86) (.tmp 87) rfl B7 (.slice (some ⟨B7,0,none⟩) N N) N L rfl gh.out (w7.heap.size+1) (some ⟨w7.heap.size,0,none⟩) 2 2 [47,11] rfl g5.out g6 (by have:=gS.out;simp;omega) ?_;intro A8 c8 w8 GQ GR GS yr _;have HD:=hid GQ;have GT:=hid GR;have Ge:=hid GS;have ys:(N:Int)<=(c8:Int):=by omega
      clear GQ GR GS yr)
    |fail)
   have HO:=hid (show w3.heap.size<=B7 from by rw[<-g1.out];exact h8.out.b.size);have Hi:Below B7 wc w8:=by
    have h1:Below B7 wc w7:=by rw[<-g1.out];exact gg.out
    exact(h1.alloc gS.out _).grown GT.out (by have:=gS.out;simp;omega) (λg e=>by have e:some B7=some g:=e;injection e with e;omega)
   have gi:=hid (h8.out.b.trans (Hi.mono HO.out));have HF:=hid (Hg.out.below gi.out);have GU:=hid (show Rd w8 w8.heap.size A6 N L from by
    have h1:=h8.out.rd;rw[g1.out]at h1;exact(h1.below Hi).more (by have h2:=Hi.size;rw[g1.out]at h2;exact h2))
   have Hj:=hid h8.out.cap;have hA:=hid (show∀h0:0<N,∀ad,A6=some ad->w3.heap.size<=ad.block/\ad.block<B7 fromλh0 ad e=>⟨h8.out.new h0 ad e,by
    obtain⟨ad2,e2,Hh,_⟩:=h8.out.rd.2 h0;rw[e]at e2;injection e2 with e2
    rw[<-g1.out,e2];exact Hh⟩)
   obtain⟨ad8,rfl,gj,_⟩:=HD.out.rd.2 (by omega);have hC:=hid (show ox ad8.block= .no/\oy ad8.block= .no/\w.heap.size<=ad8.block/\ad8.block<w8.heap.size/\B7<=ad8.block from by
    have h1:=(HD.out.lt (g:=ad8.block) rfl).2;have h2:=G7.out ad8.block (Nat.le_trans HO.out h1);exact⟨h2.1,h2.2.1,h2.2.2,gj,h1⟩)
   have gk:=hid (WC.of_rd HD.out.rd (λad e=>UF.ow HD.out (by rw[e];rfl)));have Ge:=hid (HD.out.rd);have GV:Rd w8 w8.heap.size (some ad8) N L:=by
    have h1:=HD.out.rd.head (k:=N) (by omega);rw[List.take_left' HL.out.2]at h1;exact h1
   obtain⟨nx,Qx,ex,yx,gT⟩:=goes_ex L.length 0 (.up (nf M0)) L (Nat.le_refl _) HB.out.nf (by have:=HN.out;have:=HL.out.2;omega);have yt:=hid gT;have g2:=hid (goes_live gT HB.out.nf (by have:=HN.out;have:=HL.out.2;omega));have GW:=hid (feed_goes w8 ox bx M0 Lx (some ad8) N c8 L (n:=0) (Q:=.up (nf M0)) (y:=[]) gT HB.out.nf (by have:=HN.out;have:=HL.out.2;simp;omega) ⟨rfl,HB.out.dead⟩ (λ_=>GI.out) (HE.out.wd.of HF.out.b (λg hg=>(HF.out.old g hg).1)) HF.out.c GV (λ_ ad e=>by injection e with e;rw[<-e];exact hC.out.1));clear gT Hi gj GV GT HD g5 gh gg gS ys g6 h8 HC GK GL;refine GW.out.mono ?_;rintro e w9 ⟨M1,A1,c1,ox1,Lx1,⟨GX,Gf,yu⟩,rfl,Gs,GY,h7,gl,GZ,gm⟩;have y0:=hid (show∀x∈M1.evs,x.l.length<=10000 fromλx hx=>by
    have h1:=g2.out.2.2.2 (enE x) (by rw[<-Gf];exact List.mem_map.2 ⟨x,hx,rfl⟩);exact h1)
   have y1:=hid (HF.out.cstep GY h7);have Hq:=hid (OneS.fed (P:=Nb ox1 oy) (vb:=some ad8.block) (λg h1 h2=>⟨h1,other_no HF.out.dis HF.out.s.new g h2⟩) (λg e=>by injection e with e;rw[<-e];exact⟨hC.out.1,hC.out.2.2.2.1⟩) gl GZ gm (λx hx=>by have:=y0.out x hx;omega));have g7:=hid (show ox1 ad8.block= .no/\oy ad8.block= .no/\w.heap.size<=ad8.block/\ad8.block<w9.heap.size from⟨h7.no _ hC.out.2.2.2.1 hC.out.1,hC.out.2.1,hC.out.2.2.1,Nat.lt_of_lt_of_le hC.out.2.2.2.1 h7.size⟩);have Gg:=hid (show 0<N->∀ad,A6=some ad->ox1 ad.block= .no/\oy ad.block= .no/\ad.block<w8.heap.size/\ad.block≠ad8.block fromλh0 ad e=>by
    obtain⟨h1,h2⟩:=hA.out h0 ad e;have h3:=G7.out ad.block h1;have h4:=hC.out;exact⟨h7.no _ (by omega) h3.1,h3.2.1,by omega,by omega⟩)
   have Gh:=hid ((h7.rd GU.out (Nat.le_refl _) (λh0 ad e=>(G7.out ad.block (hA.out h0 ad e).1).1)).more h7.size);have y2:=hid ((h7.rd Ge.out (Nat.le_refl _) (λ_ ad e=>by injection e with e;rw[<-e];exact hC.out.1)).more h7.size);have gn:=hid (show WC w9 (some ad8) 1 (N+2)from wc_keep gk.out λad e=>by injection e with e;rw[<-e];exact h7.keep _ hC.out.2.2.2.1 hC.out.1);have gU:=hid (show _/\_ from⟨GX,Gf⟩);clear GX Gf yu Gs GY h7 gl GZ gm GW GU hA gk Ge HF hC gi HO g1;go_wp2_with fail;refine(bytes_any A6 N c6 L w9 w9.heap.size Gh.out (Nat.le_refl _) (by have:=HN.out;omega)).mono ?_;rintro e w10 ⟨rfl,HQ,HS⟩;obtain⟨B10,hS⟩:∃B,w9.heap.size=B:=⟨_,rfl⟩;rw[hS]at HQ ⊢;have Hs:Below B10 w9 w10:=by rw[<-hS];exact HS
   have hG:=hid hS;have Ht:=hid Hs;have Hl:=hid (show B10<=w10.heap.size from by rw[<-hS];exact HS.size);have g5:=hid (Rd.lits w10 #[.int .u8 47,.int .u8 11] [47,11] 5 rfl);have Hu:=hid (HQ.alloc (.cells #[.int .u8 47,.int .u8 11] 5));have g6:N+2<=140737488355328:=by have:=HN.out;omega
   clear HQ HS hS Hs;go_wp2_with (first
    |(at_builtin
      refine wpList_app_any _ byteP rfl (.tmp 97) (.tmp 98) rfl B10 (.slice (some ⟨B10,0,none⟩) N N) N L rfl Hu.out (w10.heap.size+1) (some ⟨w10.heap.size,0,none⟩) 2 2 [47,11] rfl g5.out g6 (by have:=Hl.out;simp;omega) ?_;intro A11 c11 w11 gp gq Gt Gu _;have gs:=hid gp;have h6:=hid (show Below B10 w9 w11 from(Ht.out.alloc Hl.out _).grown gq (by have:=Hl.out;simp;omega) (λg e=>by have e:some B10=some g:=e;injection e with e;omega));clear gp gq Gt Gu)
    |fail)
   have g8:=hid (sameBytes_any (some ad8) A11 (N+2) (N+2) c8 c11 (L++[47,11]) (L++[47,11]) w11 w11.heap.size w11.heap.size (((y2.out).below (by rw[hG.out];exact h6.out)).more h6.out.size) gs.out.rd);refine g8.out.mono ?_;rintro e w12 ⟨rfl,rfl⟩;simp only[decide_true];have gt:=hid (y1.out.below (by rw[hG.out];exact h6.out));have HT:=hid ((Gh.out.below (by rw[hG.out];exact h6.out)).more h6.out.size);have Hv:=hid (show WC w11 (some ad8) 1 (N+2)from wc_keep gn.out λad e=>by injection e with e;rw[<-e];exact h6.out.block _ (by rw[<-hG.out];exact g7.out.2.2.2));have hX:=hid (Hq.out.step (P':=Nb ox1 oy) h6.out.size (fr_b (show Below w9.heap.size w9 w11 by rw[hG.out];exact h6.out)));have Gv:=hid (h6.out.size);clear g8 gs Hu g5 g6 Hl Ht gn Hq y2 y1 Gh;generalize y3:N+2=N2 at*
   have yv:=hid y3;clear y3;go_upto_region 15 with fail;go_loopw [20] (λt20 wr=>∃i:Nat,t20= .int .i64 (i:Nat)/\i<=N2/\Hid (WC wr (some ad8) 1 N2/\w11.grownBy wr (some ad8.block))) (λt20 _=>N2-(intOf t20).toNat)
   case atStart=>exact⟨0,rfl,Nat.zero_le _,hid ⟨Hv.out,World.grownBy.refl _ _⟩⟩
   case round=>
    obtain⟨i,rfl,y4,hh⟩:=hrel;by_cases Hh:i<N2
    · have gV:(i:Int)<(N2:Int):=by omega
      have i0:(0:Int)<=(i:Int):=by omega
      obtain⟨ad,v,e9,x0,f0⟩:=hh.out.1 i Hh;injection e9 with e9
      subst e9;rw[Nat.mul_one]at x0 f0;have gW:=hid (show i+1<=N2/\N2-(i+1)<N2-i from⟨by omega,by omega⟩);have ei:=zp1 i (by have:=HN.out;have:=yv.out;omega);have y5:=hid (show WC (wr.setCell (ad8.add i) (.int .u8 238)) (some ad8) 1 N2/\w11.grownBy (wr.setCell (ad8.add i) (.int .u8 238)) (some ad8.block)from
       ⟨hh.out.1.set _ _,hh.out.2.trans (by have h9:=grown_cell wr (ad8.add i) (.int .u8 238);rw[add_block]at h9;exact h9)⟩)
      clear hh y4 Hh;go_wp2_with fail;first
       |exact⟨⟨i+1,rfl,gW.out.1,y5⟩,by have:=gW.out.2;simp[intOf];omega⟩
       |(rw[ei];exact⟨⟨i+1,rfl,gW.out.1,y5⟩,by have:=gW.out.2;simp[intOf];omega⟩)
    · have gV:¬(i:Int)<(N2:Int):=by omega
      have HU:=hid (gt.out.user hh.out.2 g7.out.2.2.1 g7.out.1 g7.out.2.1);have hu:=hid (hX.out.app hh.out.2);have hU:=hid (rd_keep HT.out hh.out.2.size λh0 ad e=>hh.out.2.block _ (by have h1:=(Gg.out h0 ad e).2.2.1;have h2:=Gv.out;have h3:=hG.out;have h4:=g7.out.2.2.2;have h5:=HU.out.b.size;obtain⟨ad2,e2,hV,_⟩:=HT.out.2 h0;rw[e]at e2;injection e2 with e2;rw[e2];exact hV) (λe2=>(Gg.out h0 ad e).2.2.2 (by injection e2)));have yw:=hid (show 0<N->∀ad,A6=some ad->oy ad.block= .no fromλh0 ad e=>(Gg.out h0 ad e).2.1);clear hh y4 Hh Hv hX HT gt;go_upto_region 21 with fail;obtain⟨wA,y6⟩:∃W,wr=W:=⟨_,rfl⟩;have y7:=hid (PcS.start (L:=L) HU.out HB.out GI.out);have hA:=hid (show 0<N->∀ad,A6=some ad->oy ad.block= .no/\ad.block<wr.heap.size fromλh0 ad e=>⟨yw.out h0 ad e,by
       obtain⟨ad2,e2,hV,_⟩:=hU.out.2 h0;rw[e]at e2;injection e2 with e2
       rw[e2];exact hV⟩)
      have Gi:=hid HU.out.b.size;rw[y6]at y7 hA Gi hU hu ⊢;clear y6;go_loopw [21,22,23] (λt21 t22 t23 wr=>∃j at_:Nat,t22= .int .i64 (at_:Nat)/\t23= .int .i64 (j:Nat)/\j<=m/\at_<=N/\Hid (PcS w wA ox1 bx {M1 with evs:=[]} Lx1 oy bz M0 L wr at_ t21)) (λ_ _ t23 _=>m-(intOf t23).toNat)
      case atStart=>exact⟨0,0,rfl,rfl,Nat.zero_le _,Nat.zero_le _,y7⟩
      case round=>
       obtain⟨j,at_,rfl,rfl,y8,HG,hP⟩:=hrel;by_cases Hh:j<m
       · have gV:(j:Int)<(m:Int):=by omega
         have i0:(0:Int)<=(j:Int):=by omega
         obtain⟨adz,rfl,z0⟩:=(HZ.out.below hP.out.b).at_ Hh;generalize zs.getD j 0=z at*
         obtain⟨q,hq⟩:∃q:Nat,bits .and .i64 z 63=(q:Int):=and63 z;obtain⟨r,hr⟩:∃r,N-at_=r:=⟨_,rfl⟩;have hH:=wsubN N at_ r HG (Nat.le_trans HN.out (by decide)) hr;obtain⟨k,hk⟩:∃k,min q r=k:=⟨_,rfl⟩;have hI:=minN q r k hk;obtain⟨e24,hl⟩:∃e,at_+k=e:=⟨_,rfl⟩;have g9:at_+k<=N:=by clear hH hI;omega
         have gX:=hid (show at_+k=e24/\at_+k<=N from⟨hl,g9⟩);have hJ:=waddN at_ k e24 hl (Nat.le_trans (hl▸g9) (Nat.le_trans HN.out (by decide)));have HJ:=hid (show j+1<=m/\m-(j+1)<m-j from⟨by clear hH hI hJ;omega,by clear hH hI hJ;omega⟩);have ej:=zp1 j (by have:=HH.out.2.2.2.2;clear hH hI hJ;omega);have ga:=hid (rd_keep hU.out hP.out.size (λh0 ad e=>hP.out.keeps (hA.out h0 ad e).2 (hA.out h0 ad e).1));have HI:=hid (ga.out.sub (k:=at_) (u:=k) (c:=c6) gX.out.2 Hj.out);obtain⟨A24,Hm⟩:∃A24,(if c6=at_ then A6 else A6.map λx=>x.add at_)=A24:=⟨_,rfl⟩;rw[Hm]at HI;have y9:∀W,(Instr.slice 22 (.slice A6 N c6) (some (.int .i64 (at_:Int))) (some (.int .i64 (e24:Int))) none).run Tryz.prog W= .ok (.slice A24 k (c6-at_)) W:=λW=>by
          have h9:=run_mid (P:=Tryz.prog) (t:=22) byteP A6 N c6 at_ e24 (by rw[<-hl];exact Nat.le_add_right _ _) (by rw[hl]at g9;exact Nat.le_trans g9 Hj.out) W;rw[Hm,show e24-at_=k from by rw[<-hl];exact Nat.add_sub_cancel_left _ _]at h9;exact h9
         have gb:=hid (show 0<k->∀ad,A24=some ad->oy ad.block= .no/\ad.block<wA.heap.size fromλh0 ad e=>by
          have gc:0<N:=by clear hH hI hJ ej;omega
          rw[<-Hm]at e
          split at e
          · exact hA.out gc ad e
          · obtain⟨a6,e6,rfl⟩:=Option.map_eq_some_iff.1 e
            rw[add_block];exact hA.out gc a6 e6)
         have gd:=hid (PcS.feed hP.out HE.out.wd Gi.out HB.out (Nat.le_trans (Nat.le_of_eq HL.out.2) (Nat.le_trans HN.out (by decide))) (Nat.le_trans HG (Nat.le_of_eq HL.out.2.symm)) k A24 (c6-at_) HI.out gb.out);clear Hm g9 hl hk hr hP HG y8 Hh ga HI gb;go_wp2_with fail;refine gd.out.mono ?_;rintro e w15 ⟨A15,n15,c15,rfl,l15,evs,hd,he,hf,hi,hj⟩;have gY:=hid hd;have gZ:=hid he;have G0:=hid hf;have G1:=hid hi;have G2:=hid hj;clear hd he hf hi hj gd;go_wp2_with (first
          |(at_builtin
            refine Cm.wpList_app_e elEv w15 rfl (.tmp 126) (.tmp 134) rfl wA.heap.size u21 evs rfl gZ.out w15.heap.size A15 n15 c15 l15 rfl gY.out G0.out G1.out ?_;intro A16 c16 w16 hW hg hv;have ht:=hid (G2.out _ w16 hW hg hv);clear hW hg hv)
          |fail)
         rw[gX.out.1]at ht;refine⟨⟨j+1,e24,?_,?_,HJ.out.1,(by rw[<-gX.out.1];exact gX.out.2),ht⟩,?_⟩
         · first
            |rfl
            |rw[hJ]
         · first
            |rfl
            |rw[ej]
         · have:=HJ.out.2
           clear hH hI hJ;first
            |(simp only[ej];simp[intOf];omega)
            |(simp[intOf];omega)
       · have gV:¬(j:Int)<(m:Int):=by omega
         obtain⟨r,hr⟩:∃r,N-at_=r:=⟨_,rfl⟩;obtain⟨A26,Hn⟩:∃A26,(if c6=at_ then A6 else A6.map λx=>x.add at_)=A26:=⟨_,rfl⟩;have ga:=hid (rd_keep hU.out hP.out.size (λh0 ad e=>hP.out.keeps (hA.out h0 ad e).2 (hA.out h0 ad e).1));have HI:=hid (ga.out.cut (k:=at_) (c:=c6) HG Hj.out);rw[Hn,hr]at HI;have y9:∀W,(Instr.slice 22 (.slice A6 N c6) (some (.int .i64 (at_:Int))) none none).run Tryz.prog W= .ok (.slice A26 r (c6-at_)) W:=λW=>by
          have h9:=run_from (P:=Tryz.prog) (t:=22) byteP A6 N c6 at_ HG Hj.out W;rw[Hn,hr]at h9;exact h9
         have gb:=hid (show 0<r->∀ad,A26=some ad->oy ad.block= .no/\ad.block<wA.heap.size fromλh0 ad e=>by
          have gc:0<N:=by omega
          rw[<-Hn]at e
          split at e
          · exact hA.out gc ad e
          · obtain⟨a6,e6,rfl⟩:=Option.map_eq_some_iff.1 e
            rw[add_block];exact hA.out gc a6 e6)
         have gu:(L.drop at_).take r=L.drop at_:=List.take_of_length_le (by rw[List.length_drop,HL.out.2,hr];exact Nat.le_refl _);have gd:=hid (PcS.feed hP.out HE.out.wd Gi.out HB.out (Nat.le_trans (Nat.le_of_eq HL.out.2) (Nat.le_trans HN.out (by decide))) (Nat.le_trans HG (Nat.le_of_eq HL.out.2.symm)) r A26 (c6-at_) (by rw[gu];exact HI.out) gb.out);have ya:=hid (show at_+r=N from by omega);clear Hn hr hP HG y8 Hh ga HI gb gu hU hA;go_wp2_with fail;refine gd.out.mono ?_;rintro e w15 ⟨A15,n15,c15,rfl,l15,evs,hd,he,hf,hi,hj⟩;have gY:=hid hd;have gZ:=hid he;have G0:=hid hf;have G1:=hid hi;have G2:=hid hj;clear hd he hf hi hj gd;go_wp2_with (first
          |(at_builtin
            refine Cm.wpList_app_e elEv w15 rfl (.tmp 139) (.tmp 144) rfl wA.heap.size u21 evs rfl gZ.out w15.heap.size A15 n15 c15 l15 rfl gY.out G0.out G1.out ?_;intro A16 c16 w16 hW hg hv;have ht:=hid (G2.out _ w16 hW hg hv);clear hW hg hv)
          |fail)
         rw[ya.out]at ht;obtain⟨n16,gv⟩:∃x,evs.length+n15=x:=⟨_,rfl⟩;rw[gv]at ht ⊢;clear gv gY gZ G0 G1 G2 ya gV y9;obtain⟨My,oy2,Ly2,ny,Qy,ey,yy,evs2,hD,hY,hT,hF⟩:=ht.out;have Gj:=hY.go;rw[show L.take N=L from by rw[<-HL.out.2];exact List.take_length]at Gj;obtain⟨rfl,rfl,rfl,rfl⟩:=goes_one yt.out Gj;obtain⟨X1,Gk⟩:∃X,({M1 with evs:=[]}:Cv)=X:=⟨_,rfl⟩;rw[Gk]at hD;have Gl:Qx.is X1:=Gk▸is_evs gU.out.1;have Gm:nx<=1000000:=by have:=g2.out.2.1;have:=HL.out.2;have:=HN.out;omega
         have HK:=hid (is_still g2.out.1 Gm Gl);have g3:=hid (is_still g2.out.1 Gm hY.is);have ge:=hid (is_two Gl hY.is);have Hx:evs2.length=M1.evs.length:=by
          have h1:=congrArg List.length (hY.evs.trans gU.out.2.symm)
          simpa using h1
         have gL:n16=M1.evs.length:=by
          obtain⟨A',c',e',_⟩:=hT.row.form;injection e' with _ e' _
          rw[e',Hx]
         subst gL;have HEq:=hid (gU.out.2.trans hY.evs.symm);have hZ:=hid (hu.out.step (P':=Nb ox1 oy2) hF.size (fr_y hF));have H0:=hid hT;have Ho:=hid hD;have yb:=hid (output_still w16 ox1 bx X1 Lx1 hD.c HK.out.1 HK.out.2.1 HK.out.2.2.1 HK.out.2.2.2);clear Gj hD hY hT hF ht Gk Gl Gm Hx hu;refine yb.out.mono ?_;rintro e w17 ⟨A17,c17,ox3,Lx3,rfl,gM,gw,gx,gy,hM⟩;have HV:=hid (Ho.out.cstep gy hM);have H1:=hid (hZ.out.step (P':=Nb ox3 oy2) hM.size (fr_x hM));have H2:=hid (H0.out.step (P':=Nb ox3 oy2) hM.size (fr_x hM));have HW:=hid gw;have yc:=hid (show 0<X1.out.length->∀ad,A17=some ad->oy2 ad.block= .no fromλh0 ad e=>other_no Ho.out.dis Ho.out.s.new _ (gx h0 ad e).2.2);clear gM gw gx gy hM yb Ho hZ H0;have yd:=hid (output_still w17 oy2 bz My Ly2 HV.out.s g3.out.1 g3.out.2.1 g3.out.2.2.1 g3.out.2.2.2);go_wp2_with fail;refine yd.out.mono ?_;rintro e w18 ⟨A18,c18,oy4,Ly4,rfl,gN,gz,Gw,gA,hb⟩;have HY:=hid (HV.out.sstep gA hb);have H3:=hid (H1.out.step (P':=Nb ox3 oy4) hb.size (fr_y hb));have H4:=hid (H2.out.step (P':=Nb ox3 oy4) hb.size (fr_y hb));have Hy:Rd w18 w18.heap.size A17 X1.out.length X1.out:=rd_keep HW.out hb.size λh0 ad e=>hb.keep _ (by
          obtain⟨ad2,e2,hV,_⟩:=HW.out.2 h0;rw[e]at e2;injection e2 with e2
          rw[e2];exact hV) (yc.out h0 ad e)
         have G3:=sameBytes_any A17 A18 X1.out.length My.out.length c17 c18 X1.out My.out w18 w18.heap.size w18.heap.size Hy gz;rw[ge.out.1]at G3;simp only[decide_true]at G3;have g8:=hid G3;have yz:=hid (show My.out.length=X1.out.length from by rw[ge.out.1]);simp only[yz.out];clear gN gz Gw gA hb Hy G3 yd HV H1 H2 HW yc;go_wp2_with fail;refine g8.out.mono ?_;rintro e w19 ⟨rfl,Gx⟩;subst Gx;have ye:=streams_any w18 ox3 bx _ Lx3 HY.out.c HK.out.1 HK.out.2.1;have gB:=hid ye;clear ye g8;go_wp2_with fail;refine gB.out.mono ?_;rintro e w20 ⟨A20,c20,rfl,gC,hO⟩;have g0:=hid (HY.out.below hO);have H5:=hid (H3.out.step (P':=Nb ox3 oy4) hO.size (fr_b hO));have H7:=hid (H4.out.step (P':=Nb ox3 oy4) hO.size (fr_b hO));have gD:=hid (ri_own gC);have yf:=streams_any w20 oy4 bz _ Ly4 g0.out.s g3.out.1 g3.out.2.1;have gE:=hid yf;clear gC hO yf gB HY H3 H4;go_wp2_with fail;refine gE.out.mono ?_;rintro e w21 ⟨A21,c21,rfl,gF,hc⟩;have gG:=hid (g0.out.below hc);have H8:=hid (H5.out.step (P':=Nb ox3 oy4) hc.size (fr_b hc));have H9:=hid (H7.out.step (P':=Nb ox3 oy4) hc.size (fr_b hc));have gH:=hid (ri_own gF);have Gn:=gD.out.below hc;have Gp:=gH.out;have e21:({My with out:=[]}:Cv).strs=X1.strs:=ge.out.2.1;have e22:({X1 with out:=[]}:Cv).strs=X1.strs:=rfl;rw[e22]at Gn ⊢;rw[e21]at Gp ⊢;have yg:=hid (sameInts_any w21 A20 A21 X1.strs.length c20 c21 _ _ _ Gn Gp hc.size (Nat.le_refl _) HK.out.2.1);clear gF hc Gn Gp e21 e22 gD gH gE g0 H5 H7;go_wp2_with fail;refine yg.out.mono ?_;rintro e w22 ⟨rfl,hQ⟩;have Hp:=hid (gG.out.below hQ);have Ha:=hid (H8.out.step (P':=Nb ox3 oy4) hQ.size (fr_b hQ));have Hb:=hid (H9.out.step (P':=Nb ox3 oy4) hQ.size (fr_b hQ));have yh:=dead_any w22 ox3 bx _ Lx3 Hp.out.c;have yi:=hid yh;clear hQ yh yg gG H8 H9;go_wp2_with fail;refine yi.out.mono ?_;rintro e w23 ⟨rfl,q23,rfl⟩;have Gq:=dead_any (w22.drewN q23) oy4 bz _ Ly4 (Hp.out.s.drewN q23);have e23:({My with out:=[]}:Cv).code=X1.code:=ge.out.2.2.1;have e24:({My with out:=[]}:Cv).dead=X1.dead:=ge.out.2.2.2;rw[e23,e24]at Gq;have yj:=hid Gq;clear Gq e23 e24 yi;go_wp2_with fail;refine yj.out.mono ?_;rintro e w24 ⟨rfl,q24,gI⟩;have hR:Below w22.heap.size w22 w24:=by rw[gI];exact bdN (bdN (Below.refl _ _) q23) q24
         have gJ:=hid (Hp.out.below hR).b;have Hc:=hid (Ha.out.step (P':=Nb ox3 oy4) hR.size (fr_b hR));have He:=hid (Hb.out.step (P':=Nb ox3 oy4) hR.size (fr_b hR));have yk:M1.evs.length<=100000:=by
          have h1:=congrArg List.length gU.out.2;rw[List.length_map]at h1;have h2:=g2.out.2.1;have h3:=g2.out.2.2.1;have h4:=HL.out.2;have h5:=HN.out;omega
         have yA:=hid (sameEvG w24 A1 A16 M1.evs.length c1 c16 w24.heap.size w24.heap.size M1.evs evs2 Hc.out.row (He.out.row.rs (λ_=>rfl) (by decide)) (Nat.le_refl _) (Nat.le_refl _) HEq.out (λx hx=>(Hc.out.each x hx).rd) (λx hx=>(He.out.each x hx).rd) (λx hx=>by have:=y0.out x hx;omega) yk);clear hR yk gI yj Hp Ha Hb;go_wp2_with fail;refine yA.out.mono ?_;rintro e w25 ⟨rfl,gK⟩;have Gy:=hid (gJ.out.trans (gK.mono gJ.out.size));clear gK;go_wp2_with fail;go_ret;exact⟨rfl,Gy.out⟩
end Go.Proofs.YtkpppjhbmnfmkaaGreatDoor
