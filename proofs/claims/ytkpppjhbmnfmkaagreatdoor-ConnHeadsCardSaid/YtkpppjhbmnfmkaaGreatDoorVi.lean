import Derived.Test.YtkpppjhbmnfmkaaGreatDoorVh
import Derived.Test.YtkpppjhbmnfmkaaGreatDoorJaz
import Derived.Test.YtkpppjhbmnfmkaaGreatDoorOr
import Derived.Test.YtkpppjhbmnfmkaaGreatDoorJar
import Derived.Test.YtkpppjhbmnfmkaaGreatDoorJav
set_option linter.unusedSimpArgs false
set_option linter.unusedVariables false
set_option maxHeartbeats 16000000
set_option maxRecDepth 100000
namespace Go.Proofs.YtkpppjhbmnfmkaaGreatDoor
open Go.RowKit Go.Own Go.Own.Im Go.Own.Cx Go.Own.Fr Go.Own.Hd
attribute [local go_sem] Oper.semAt_some
theorem hr_rs {w:World} {A:Option Addr} {n:Nat} {l:List HdrV} (h:H6.Hr w A n l):Cm.RS hdrC 3 w w.heap.size A n l:=⟨h.1,λj x hx=>by
 have hj:=(List.getElem?_eq_some_iff.1 hx).1;have h0:j<n:=by rw[<-h.1];exact hj
 obtain⟨ad,e,a0,a1,a2⟩:=h.at_ h0;have h1:l.getD j ⟨⟨#[]⟩,⟨#[]⟩,false⟩=x:=by rw[List.getD,hx];rfl
 rw[h1]at a0 a1 a2;refine⟨ad,e,h.alt h0 ad e,h.alt h0 ad e,a0,λi v hi hv=>?_⟩;have h2:i=1\/i=2:=by
  have:=(Array.getElem?_eq_some_iff.1 hv).1;have e3:(hdrC x).size=3:=rfl;omega
 rcases h2 with rfl|rfl
 · have:v= .string x.value:=by injection hv.symm
   rw[this];exact a1
 · have:v= .bool x.never:=by injection hv.symm
   rw[this];exact a2⟩
theorem heads_many (w:World) (hW:EnvW w) (fin:Bool) (cut pad st:Int) (A:Option Addr) (n c:Nat) (h:50<n):
 Calls Tryz.prog 5 #[.slice A n c,.bool fin,.int .i64 cut,.int .i64 pad,.int .i64 st] w λe w'=>e= .returned (.bool true)/\Below w.heap.size w w':=by
 have HF:=Lib.hid (first_any w hW);have k1:((50:Int)<(n:Int))=True:=by simp;omega
 clear hW h;go_enter Tryz.func5,Tryz.ntmps5;go_wp2_with fail;refine HF.out.mono ?_;rintro e w1 ⟨rfl,h0⟩;have h1:=Lib.hid h0;clear h0;go_wp2;go_ret;exact⟨rfl,h1.out⟩
theorem heads_much (w:World) (hW:EnvW w) (fin:Bool) (cut pad st:Int) (A:Option Addr) (n c:Nat) (l:List HdrV) (hr:H6.Hr w A n l) (hn:n<=50) (hz:∀x∈l,x.name.size<=140737488355328/\x.value.size<=140737488355328) (h:12000<hszs l):
 Calls Tryz.prog 5 #[.slice A n c,.bool fin,.int .i64 cut,.int .i64 pad,.int .i64 st] w λe w'=>e= .returned (.bool true)/\Below w.heap.size w w':=by
 have HF:=Lib.hid (first_any w hW);have hl:=hr.1;have h0:=Lib.hid (λW (hb:Below w.heap.size w W)=>r4size_any W A c l (by rw[hl];exact((hr_rs hr).below hb).more hb.size) (by omega) hz);rw[hl]at h0;have k1:((50:Int)<(n:Int))=False:=by simp;omega
 obtain⟨z,h2⟩:∃z,hszs l=z:=⟨_,rfl⟩;rw[h2]at h0 h;have k2:((12000:Int)<(z:Int))=True:=by simp;omega
 clear hW h hr hn hz hl h2;go_enter Tryz.func5,Tryz.ntmps5;go_wp2_with fail;refine HF.out.mono ?_;rintro e w1 ⟨rfl,h3⟩;have h1:=Lib.hid h3;clear h3;go_wp2_with (first
  |(go_at_call 23
    with_reducible refine Calls.mono (h0.out _ h1.out) ?_
    rintro e w2 ⟨rfl,h4⟩;have h5:=Lib.hid (h1.out.trans (h4.mono h1.out.size));clear h4)
  |fail)
 go_ret;exact⟨rfl,h5.out⟩
theorem run_cut_b (A:Option Addr) (n c k:Nat) (hk:k<=n) (hc:n<=c) (W:World):(Instr.slice 22 (.slice A n c) none (some (.int .i64 (k:Int))) none).run Tryz.prog W= .ok (.slice A k c) W:=by
 obtain⟨i,hi,hz,h1,_⟩:=byteP.info;have hm:A.map (λx=>x.add 0)=A:=by cases A<;>rfl
 simp[Instr.slice,run_underlying byteP.slice,Instr.sliceBounds,run_sliceBound,sizeOf,typeInfo,hi,h1,Result.andThen,show(k:Int)<=c by omega]
 exactλ_=>hm
theorem kmod (cut:Int) (m:Nat) (h0:0<m) (hm:m<=1000000):∃k:Nat,k<=m/\(wrap64 (cut.tmod (m:Int)+(m:Int))).tmod (m:Int)=(k:Int):=by
 have h1:(cut.tmod (m:Int)).natAbs=cut.natAbs % m:=by rw[Int.natAbs_tmod];rfl
 have h2:cut.natAbs % m<m:=Nat.mod_lt _ h0;generalize cut.tmod (m:Int)=r at*
 have h3:wrap64 (r+(m:Int))=r+(m:Int):=by unfold wrap64;omega
 rw[h3];obtain⟨q,hq⟩:∃q:Nat,r+(m:Int)=(q:Int):=⟨(r+(m:Int)).toNat,by omega⟩;rw[hq];exact⟨q % m,Nat.le_of_lt (Nat.mod_lt _ h0),(Int.ofNat_tmod q m).symm⟩
structure EvH (w:World) (ow:Nat->Tg) (ad:Addr) (id:Nat) (fin:Bool) (A:Option Addr) (n c:Nat) (l:List HdrV):Prop where
 a0:w.cell? ad=some (.int .i64 1)
 a1:w.cell? ⟨ad.block,ad.off+1,none⟩=some (.int .i64 (id:Nat))
 a4:w.cell? ⟨ad.block,ad.off+4,none⟩=some (.bool fin)
 a5:w.cell? ⟨ad.block,ad.off+5,none⟩=some (.slice A n c)
 rs:Cm.RS hdrC 3 w w.heap.size A n l
 no:ow ad.block= .no
 nr:0<n->∀g,A=some g->ow g.block= .no
theorem EvH.below {w w':World} {ow:Nat->Tg} {ad:Addr} {id n c:Nat} {fin:Bool} {A:Option Addr} {l:List HdrV} (h:EvH w ow ad id fin A n c l) (hb:Below w.heap.size w w'):EvH w' ow ad id fin A n c l:=by
 have h0:=World.block_lt_of_cell? w _ h.a0;have hk:=hb.block ad.block h0;exact⟨(World.cell?_of_block (a:=ad) hk).trans h.a0,(World.cell?_of_block (a:=⟨ad.block,ad.off+1,none⟩) hk).trans h.a1,(World.cell?_of_block (a:=⟨ad.block,ad.off+4,none⟩) hk).trans h.a4,(World.cell?_of_block (a:=⟨ad.block,ad.off+5,none⟩) hk).trans h.a5,
  (h.rs.below hb).more hb.size,h.no,h.nr⟩
theorem EvH.of {w:World} {ow:Nat->Tg} {ad:Addr} {id n c B:Nat} {fin:Bool} {A:Option Addr} {l:List HdrV} (hn:l.length=n) (h:Cm.RS evC 7 w B (some ad) 1 [hEv id fin l A c]) (hno:ow ad.block= .no) (hr:EvR w ow (hEv id fin l A c)):EvH w ow ad id fin A n c l:=by
 obtain⟨a0,a1,_,_,a4,a5,_⟩:=ev_all (j:=0) (x:=hEv id fin l A c) h rfl;subst hn;exact⟨a0,a1,a4,a5,hr.lst.2.1,hno,hr.lst.2.2⟩
theorem own_first {w:World} {base:Nat} {e:TypeId} {A:Option Addr} {c:Nat} {v:Value} (h:w.ownsRow base e 1 (.slice A 1 c) 1 [v]):∃ad,A=some ad/\w.cell? ad=some v:=by
 rcases h.2 with⟨e0,h0⟩|⟨g,cap,cur,e0,hb,hg,hn,hm,h2,h1⟩
 · cases h0
 · injection e0 with e1 _ _
   subst e1;exact⟨_,rfl,World.ownsRow.cells h (g:=g) rfl 0 v rfl⟩
theorem re_new {w:World} {e tb:Nat} (h:REn w e tb 4096):RE w e tb {}:=by
 refine⟨h.1,⟨none,0,h.2,Cm.RS.nil,Nat.le_refl _,λad e=>by cases e⟩,λe2=>?_,⟨Nat.zero_le _,λx hx=>by cases hx⟩,by decide⟩;subst e2;have h1:=h.1.cell 1;have h2:=h.2.cell 1;rw[h1]at h2;simp at h2
theorem heads_small (w:World) {a1 a2:Addr} (hE:EnvS w a1 a2) (fin:Bool) (cut pad st:Int) (p s:Nat) (hp:bits .and .i64 pad 31=(p:Int)) (Hs:p<=31) (hs:bits .and .i64 st 1023=(s:Int)) (hJ:s<=1023)
 (A:Option Addr) (n c:Nat) (l:List HdrV) (hr:H6.Hr w A n l) (hc:n<=c) (hn:n<=50) (hz:hszs l<=12000):
 Calls Tryz.prog 5 #[.slice A n c,.bool fin,.int .i64 cut,.int .i64 pad,.int .i64 st] w λe w'=>e= .returned (.bool true)/\Below w.heap.size w w':=by
 have HE:=Lib.hid hE;have HF:=Lib.hid (first_any w hE.wd);have hl:=hr.1;have Hi:=Lib.hid (λW (hb:Below w.heap.size w W)=>r4size_any W A c l (by rw[hl];exact((hr_rs hr).below hb).more hb.size) (by omega) (λx hx=>by have:=hsize_le hx hz;omega));rw[hl]at Hi;have HR:=Lib.hid hr;have HH:=Lib.hid (show _/\_/\_/\_/\_ from⟨Hs,hJ,hn,hc,hz⟩);have k1:((50:Int)<(n:Int))=False:=by simp;omega
 obtain⟨z,gG⟩:∃z,hszs l=z:=⟨_,rfl⟩;rw[gG]at Hi;have k2:((12000:Int)<(z:Int))=False:=by simp;omega
 obtain⟨id,hid⟩:∃id,s*2+1=id:=⟨_,rfl⟩;have gH:=Lib.hid hid;have Gf:wrap64 ((s:Int)*2)=((s*2:Nat):Int):=by unfold wrap64;omega
 have gI:wrap64 (((s*2:Nat):Int)+1)=(id:Int):=by unfold wrap64;omega
 have Gg:wrap64 ((s:Int)*2+1)=(id:Int):=by unfold wrap64;omega
 generalize Gh:((s*2:Nat):Int)=s2 at*
 clear hE hr hn hz hl gG Hs hJ hc hid Gh;go_enter Tryz.func5,Tryz.ntmps5;go_wp2_with fail;refine HF.out.mono ?_;rintro e w1 ⟨rfl,gJ⟩;have gl:=Lib.hid gJ;clear gJ;go_wp2_with (first
  |(go_at_call 23
    with_reducible refine Calls.mono (Hi.out _ gl.out) ?_
    rintro e w9 ⟨rfl,gK⟩;have hM:=Lib.hid (gl.out.trans (gK.mono gl.out.size));clear gK)
  |fail)
 rw[gI];refine(new2_any w9 65535 10 (by decide) (by decide)).mono ?_;rintro e w2 ⟨b,ow2,L2,rfl,gL,gm,gn⟩;have Hl:=Lib.hid (hM.out.trans (gm.mono hM.out.size));have gM:=Lib.hid gL;have Hm:=Lib.hid (show∀g,g<w.heap.size->ow2 g= .no fromλg hg=>gn g (Nat.lt_of_lt_of_le hg hM.out.size));have hZ:=Lib.hid ((HE.out.below hM.out).wd.of gm gn);clear gm gL gn k1 k2 hs Gf gI Gg;go_wp2_with fail;refine(hello2_any w2).mono ?_;rintro e w3 ⟨A3,c3,rfl,gN,go⟩;have gO:=Lib.hid (gM.out.below go);have gP:=Lib.hid (Fr.below go ow2);have gQ:=Lib.hid (hZ.out.fr gP.out);have gp:=Lib.hid gN;clear go gN;go_wp2_with fail;refine(feed_any w3 ow2 b _ L2 _ 26 A3 _ c3 _ gQ.out gO.out gp.out.rd (gp.out.tagged gM.out.new) rfl (by show 0+33<=_;decide) runs_g).mono ?_;rintro e w4 ⟨M4,A4,c4,ow4,L4,rfl,rfl,gy,gR,gS,_,_,_⟩;have gT:=Lib.hid (show CN w4 ow4 b {g00 with evs:=[]} L4 from gR);have gU:=Lib.hid (gP.out.trans gS);clear gy gR gS gO gQ gp;go_wp2_with fail;refine(output_still w4 ow4 b _ L4 gT.out List.Pairwise.nil (Nat.zero_le _) (λs hs=>by cases hs) (.inr λs hs=>by cases hs)).mono ?_;rintro e w5 ⟨A5,c5,ow5,L5,rfl,gz,Gi,Gj,gV,gW⟩;have gh:=Lib.hid (show CN w5 ow5 b g0 L5 from gV);have gi:=Lib.hid (gU.out.trans gW);clear gz Gi Gj gV gW gT gU;go_wp2_with fail;refine(rnewEnc_any 4096 w5).mono ?_;rintro e w6 ⟨ge,tb,rfl,Gk,gj,gX,Hn⟩;have gk:=gi.out.toBelow Hl.out Hm.out;have gY:RE w6 ge tb {}:=re_new gX;obtain⟨L,hL⟩:∃L,(Hk.encP {} l).1=L:=⟨_,rfl⟩;obtain⟨t',gq⟩:∃t',(Hk.encP {} l).2=t':=⟨_,rfl⟩;have H0:=rencodeP_any w6 ge tb {} A c w.heap.size l gY (by rw[HR.out.1];exact(((hr_rs HR.out).below gk).below (Hn.mono gk.size))) (Nat.le_trans gk.size gj) (by have:=HH.out;omega) (L,t') (by rw[<-hL,<-gq]);rw[HR.out.1]at H0;have Ht:=Lib.hid H0;have Gl:=Lib.hid (show Hk.decP {} L=some (l,t')from by
  rw[<-hL,<-gq];exact Hk.there_back {} l ⟨λh hh=>(by cases hh),(by decide),(by decide)⟩ (by have:=HH.out;have e:Hk.hzs l=hszs l:=rfl;omega))
 have Gm:=Lib.hid (show L.length<=12000 from by
  rw[<-hL];exact Nat.le_trans (Hk.encP_len {} l) HH.out.2.2.2.2)
 have gZ:=Lib.hid (gh.out.below Hn);have G0:=Lib.hid (gi.out.trans (Fr.below Hn ow5));have G1:=Lib.hid (show ow5 tb= .no/\w2.heap.size<=tb from⟨gh.out.new tb gj,Nat.le_trans gi.out.size gj⟩);have Gn:=Lib.hid (show w5.heap.size<=w6.heap.size from Hn.size);have gA:=Lib.hid (λg (hg:w5.heap.size<=g)=>gh.out.new g hg);clear gk gY hL gq H0 Gk gj gX Hn gh gi;go_wp2_with fail;refine Ht.out.mono ?_;rintro e w7 ⟨A7,c7,rfl,G2,gB,gs⟩;have gt:=Lib.hid (cn_aside gZ.out gs (λg e=>by injection e with e;subst e;exact G1.out.1));have G3:=Lib.hid (fr_grownNew G0.out gs (λg e=>by injection e with e;subst e;exact G1.out.2));have Ho:=Lib.hid G2;obtain⟨m,hm⟩:∃m,L.length=m:=⟨_,rfl⟩;have HM:=Lib.hid hm;simp only;rw[hm];have Hu:m<=12000:=by rw[<-hm];exact Gm.out
 clear G2 gs gB gZ G0 hm Ht;go_upto_region 12 with fail;go_cut [58]from 56 to 57 (λv wx=>Hid (v= .bool (decide (0<m))/\wx=w7))
 case first=>
  as_aux_lemma=>
  go_wp2_with fail;go_meet;exact Lib.hid ⟨by simp,rfl⟩
 case rest=>
  obtain⟨rfl,hW⟩:=hcut.out;subst hW;clear hcut;rename_i hK;refine hK _ _ ?_;go_cut [15,58]from 59 to 68 (λv u wx=>Hid (∃(k:Nat) (q:Bool),k<=m/\v= .int .i64 (k:Nat)/\u= .bool q/\wx=wc))
  case first=>
   as_aux_lemma=>
   by_cases h0:m=0
   · have hd:decide (0<m)=false:=by simp[h0]
     clear h0;rw[hd];go_wp2_with fail;go_meet;exact Lib.hid ⟨0,_,Nat.zero_le _,rfl,rfl,rfl⟩
   · have hd:decide (0<m)=true:=by simp;omega
     have G4:0<m:=by omega
     obtain⟨k,hk,hS⟩:=kmod cut m G4 (by omega);rw[hd];have Gu:¬(m:Int)=0:=by omega
     clear h0 G4;go_wp2_with fail;go_meet;exact Lib.hid ⟨k,_,hk,by first|rfl|rw[hS],rfl,rfl⟩
  case rest=>
   obtain⟨k,q58,hS,rfl,rfl,hW⟩:=hcut.out;subst hW;clear hcut;go_upto_region 15 with fail;go_cut [69]from 70 to 70 (λv wx=>Hid (v= .bool fin/\wx=wc))
   case first=>
    as_aux_lemma=>
    go_wp2_with fail;go_meet;exact Lib.hid ⟨rfl,rfl⟩
   case rest=>
    obtain⟨rfl,hW⟩:=hcut.out;subst hW;clear hcut;rename_i hK;refine hK _ _ ?_;go_cut [16]from 70 to 70 (λv wx=>Hid (v= .int .i64 (dfl fin:Nat)/\wx=wc))
    case first=>
     as_aux_lemma=>
     cases fin with
     |true=>
      go_wp2_with fail;go_meet;exact Lib.hid ⟨rfl,rfl⟩
     |false=>
      go_wp2_with fail;go_meet;exact Lib.hid ⟨rfl,rfl⟩
    case rest=>
     obtain⟨rfl,hW⟩:=hcut.out;subst hW;clear hcut hK;have HK:=Lib.hid (And.intro hS Hu);have Gp:IntKind.u8.wrap (p:Int)=(p:Int):=by have:=HH.out.1;rw[IntKind.wrap_u8];omega
     have gu:m<=c7:=by
      obtain⟨A',c',e',h1,_⟩:=Ho.out.form;injection e' with _ e2 e3
      rw[HM.out]at h1;omega
     have hcut:=λW=>run_cut_b A7 m c7 k hS gu W;have Hv:Rd wc wc.heap.size A7 m L:=by rw[<-HM.out];exact Ho.out.rd
     have Gq:=Lib.hid (Hv.head hS);obtain⟨Ad,gv⟩:∃Ad,(if c7=k then A7 else A7.map λx=>x.add k)=Ad:=⟨_,rfl⟩;have G5:=λW=>run_from (P:=Tryz.prog) (t:=22) byteP A7 m c7 k hS gu W;rw[gv]at G5;have H1:=(Oz.of_ow (own:=λg=>w6.heap.size<=g/\ow5 g= .no) Ho.out (λg e=>⟨(Ho.out.lt e).2,gA.out g (Nat.le_trans Gn.out (Ho.out.lt e).2)⟩));rw[HM.out]at H1;have hH:=H1.cut hS;rw[gv]at hH;have G6:=Lib.hid hH;have G7:=Lib.hid (oz_one wc p (by have:=HH.out.1;omega));have Hj:=Lib.hid ((Below.refl wc.heap.size wc).alloc (Nat.le_refl _) (.cells #[.int .u8 (p:Int)] 5));have gC:=Lib.hid ((Gq.out.below Hj.out).more Hj.out.size);have Hx:1+k<=140737488355328:=by omega
     have gD:1+k+p<=140737488355328:=by have:=HH.out.1;omega
     have G8:p<=1000000:=by have:=HH.out.1;omega
     have gw:=Lib.hid (show(L.take k).length=k by rw[List.length_take,HM.out];omega);have Gr:=Lib.hid (show(L.drop k).length=m-k by rw[List.length_drop,HM.out]);obtain⟨sz,hsz⟩:∃sz,1+k+p=sz:=⟨_,rfl⟩;have gx:=Lib.hid (show sz<16777216 by have:=HH.out.1;omega);have Hi:=Lib.hid (show([UInt8.ofNat p]++L.take k).length+p=sz by rw[List.length_append,gw.out];exact hsz);clear hsz hS Hu Hv gv H1 hH gu;go_wp2_with (first
      |(refine wpList_app_z byteP _ rfl (.tmp 74) (.tmp 77) rfl (λg=>wc.heap.size<=g) (.slice (some ⟨wc.heap.size,0,none⟩) 1 1) [UInt8.ofNat p] rfl G7.out _ A7 k c7 (L.take k) rfl gC.out Hx ?_
        intro A9 c9 w9 row9 G9 Ga Gb;have Gc:=Lib.hid (show Oz w9 (λg=>wc.heap.size<=g) (.slice A9 (1+k) c9) ([UInt8.ofNat p]++L.take k)from G9.owned (own':=λg=>wc.heap.size<=g) (λg _ h=>by rcases h with h|⟨_,h⟩;exact h;rw[h];exact Hj.out.size));have hM:=Lib.hid (Hj.out.grown Ga Hj.out.size (λg e=>(Gb g e).1));have Gd:([UInt8.ofNat p]++L.take k).length+p<=140737488355328:=by rw[Hi.out];have:=gx.out;omega
        clear G9 Ga Gb)
      |(refine wpList_app_zeros byteP Tryz.underlying3 _ rfl (.tmp 79) (.tmp 80) rfl (λg=>wc.heap.size<=g) (.slice A9 (1+k) c9) ([UInt8.ofNat p]++L.take k) rfl Gc.out p rfl G8 Gd ?_
        intro A10 c10 w10 row10 H2 Hy HB;rw[show([UInt8.ofNat p]++L.take k).length+p=sz from Hi.out]at H2 ⊢;have HC:=Lib.hid (show Oz w10 (λg=>wc.heap.size<=g) (.slice A10 sz c10) (padB p (L.take k))from H2.owned (own':=λg=>wc.heap.size<=g) (λg _ h=>by rcases h with h|⟨_,h⟩;exact h;rw[h];exact hM.out.size));have hN:=Lib.hid (hM.out.grown Hy hM.out.size (λg e=>(HB g e).1));clear H2 Hy HB)
      |fail)
     clear Hx gD G8 Gd Gp hcut;refine(lawFrame_any A10 sz c10 1 (dfl fin) id w10.heap.size (padB p (L.take k)) w10 HC.out.rd (Nat.le_refl _) gx.out (by decide) (dfl_255 fin) (by have:=gH.out;have:=HH.out;omega)).mono ?_;rintro e w11 ⟨A11,c11,rfl,HG,HI⟩;have hj:=Lib.hid (hN.out.trans (HI.mono hN.out.size));have HN:=Lib.hid (gt.out.below hj.out);have H3:=Lib.hid (G3.out.trans (Fr.below hj.out ow5));have HO:=Lib.hid (hZ.out.fr H3.out);have H4:=Lib.hid (HG.base hN.out.size);have hT:=Lib.hid (G6.out.keep (λg hg _=>hj.out.block g hg) hj.out.size);have hX:g0.fed.length+(9+sz)<=140737488355328:=by have:=gx.out;show 0+_<=_;omega
     have h2:=Lib.hid (show id % 2=1/\id<=2147483647/\id≠0 from by have:=gH.out;have:=HH.out;omega);clear HG HI hN hM Hj HC Gc G7;go_wp2_with fail;refine(feed_any w11 ow5 b g0 L5 _ 1 A11 _ c11 _ HO.out HN.out H4.out.rd (H4.out.tagged gt.out.new) rfl hX (runs_g1 id p fin (L.take k) h2.out.1 h2.out.2.1 (by have:=HH.out.1;omega) (by have:=gw.out;have:=HK.out;omega))).mono ?_;rintro e w12 ⟨M12,A12,c12,ow12,L12,rfl,rfl,gb,HQ,H5,_,_,_⟩;have hq:=Lib.hid (show CN w12 ow12 b (g1 id fin (L.take k)) L12 from HQ);have H7:=Lib.hid (H3.out.trans H5);have hU:=Lib.hid (oz_fed2 hT.out H5);rw[show(g1 id fin (L.take k)).evs.length=0 from rfl];have gc:=Lib.hid hU.out.rd;clear gb HQ H5 hX HN H3 HO H4 hj hT hU gt G3;go_wp2_with fail;refine(lawFrame_any Ad (m-k) (c7-k) 9 4 id w12.heap.size (L.drop k) w12 gc.out (Nat.le_refl _) (by have:=HK.out;omega) (by decide) (by decide) h2.out.2.1).mono ?_;rintro e w13 ⟨A13,c13,rfl,HS,H8⟩;have hO:=Lib.hid (hq.out.below H8);have ht:=Lib.hid (H7.out.trans (Fr.below H8 ow12));have hP:=Lib.hid (hZ.out.fr ht.out);have he:=Lib.hid HS;have hX:(g1 id fin (L.take k)).fed.length+(9+(m-k))<=140737488355328:=by have:=HK.out;show 0+_<=_;omega
     have Ge:Hid (Hk.decP {} (L.take k++L.drop k)=some (l,t')):=Lib.hid (by rw[List.take_append_drop];exact Gl.out);have HT:=Lib.hid (show(L.take k).length+(L.drop k).length<=16384 by have:=gw.out;have:=Gr.out;have:=HK.out;omega);have HU:=Lib.hid (doc_open l);have HV:=Lib.hid (show H6.Szs l fromλx hx=>by have:=hsize_le hx HH.out.2.2.2.2;omega);clear HS H8 G5 G6;go_wp2_with fail;cases hf:docB l with
     |true=>
      have Hp:(openS rules4 l req0).isSome=true:=by rw[<-HU.out];exact hf
      have HD:=Lib.hid hf;refine(feed_any w13 ow12 b _ L12 _ 1 A13 _ c13 _ hP.out hO.out he.out.rd (he.out.tagged hq.out.new) rfl hX (runs_g2 id fin (L.take k) (L.drop k) l t' h2.out.2.2 h2.out.2.1 HT.out Ge.out Hp)).mono ?_;rintro e w14 ⟨M14,A14,c14,ow14,L14,⟨Ax,cx,rfl⟩,rfl,h4,hu,hA,h5,h9,hI⟩;rw[g2_evs]at h4 h5 hI h9 ⊢;rw[show([hEv id fin l Ax cx]:List EvV).length=1 from rfl]at h4 h5 h9 ⊢;obtain⟨ad,_,rfl,_⟩:=h5.at2 (j:=0) (by decide);have hV:=Lib.hid (EvH.of (n:=n) HR.out.1 h5 (h9 (by decide) ad rfl) (hI _ (by simp)));have hC:=Lib.hid (show CN w14 ow14 b {g2 id fin (L.take k) l t' Ax cx with evs:=[]} L14 from hu);have h6:=Lib.hid (ht.out.trans hA);clear h4 hu hA h5 h9 hI hX hO ht hP he hq H7 Hp hf;have hY:=Lib.hid (h6.out.toBelow Hl.out Hm.out);go_wp2_with fail;refine(ropen_any A n c l w14 (HR.out.below hY.out) HV.out (by have:=HH.out;omega) HH.out.2.2.2.1 true HD.out).mono ?_;rintro e w15 ⟨q1,q2,q3,q4,q5,q6,q7,rfl,h7⟩;rw[show trC true=0 from rfl];have h8:=Lib.hid (h7.alloc h7.size (.cells #[.string q1,.string q2,.string q3,.string q4,.slice q5 q6 q7] 57));clear h7;go_upto_region 25 with fail;generalize w15.alloc (.cells #[.string q1,.string q2,.string q3,.string q4,.slice q5 q6 q7] 57)=w16 at*
      have Hq:=Lib.hid (hV.out.below h8.out);have hD:=Lib.hid (hC.out.below h8.out);have hQ:=Lib.hid (h6.out.trans (Fr.below h8.out ow14));have gd:=Lib.hid (hY.out.trans (h8.out.mono hY.out.size));have Gs:=Lib.hid (H6.sameHeaders_yes Ax A n cx c l w16 (by have:=HH.out;omega) (by have h:=Hq.out.rs;rw[<-HR.out.1]at h ⊢;exact rs_hr h) (HR.out.below gd.out));have a0:=Hq.out.a0;have a1:=Hq.out.a1;have a4:=Hq.out.a4;have a5:=Hq.out.a5;clear hV hC h6 hY;go_wp2_with (first
       |(go_at_call 27
         with_reducible refine Calls.mono Gs.out ?_
         rintro e w17 ⟨rfl,hi⟩;have HW:=Lib.hid (hD.out.below hi);have HX:=Lib.hid (hQ.out.trans (Fr.below hi ow14));clear hi)
       |fail)
      refine(output_still w17 ow14 b _ L14 HW.out (srt_one (g2_strs id fin (L.take k) l t' Ax cx)) (by show 1<=1000000;decide) (one_mem (g2_strs id fin (L.take k) l t' Ax cx) (by rw[g2_id];exact h2.out.2.1)) (.inr (one_mem (g2_strs id fin (L.take k) l t' Ax cx) (g2_still id fin)))).mono ?_;rintro e w18 ⟨A18,c18,ow18,L18,rfl,_,_,_,HY,HZ⟩;rw[show({g2 id fin (L.take k) l t' Ax cx with evs:=[]}:Cv).out.length=0 from rfl];have hF:=Lib.hid (show CN w18 ow18 b (g4 id fin (L.take k) l t' Ax cx) L18 from HY);have H9:=Lib.hid (HX.out.trans HZ);clear HY HZ HW HX;go_wp2_with fail;refine(streams_any w18 ow18 b _ L18 hF.out (srt_one (g2_strs id fin (L.take k) l t' Ax cx)) (by show 1<=1000000;decide)).mono ?_;rintro e w19 ⟨A19,c19,rfl,_,h3⟩;rw[show(g4 id fin (L.take k) l t' Ax cx).strs.length=1 from rfl];have Ha:=Lib.hid (hF.out.below h3);have Hb:=Lib.hid (H9.out.trans (Fr.below h3 ow18));clear h3;go_wp2_with fail;refine(streams_any w19 ow18 b _ L18 Ha.out (srt_one (g2_strs id fin (L.take k) l t' Ax cx)) (by show 1<=1000000;decide)).mono ?_;rintro e w20 ⟨A20,c20,rfl,Hc,g5⟩;have He:=Lib.hid (Hb.out.trans (Fr.below g5 ow18));have Gt:=own_first (v:=.int .i64 (id:Nat)) (show w20.ownsRow w19.heap.size 3 1 (.slice A20 1 c20) 1 [.int .i64 (id:Nat)]from by
       have e1:((g4 id fin (L.take k) l t' Ax cx).strs.map λs=>(s.id:Int)).map encZ=[.int .i64 (id:Nat)]:=by
        show(([endS ({id:=id,other:=1,inw:=65535,outw:=65535}:Sv) fin]).map λs=>(s.id:Int)).map encZ=_;rw[List.map_singleton,g2_id]
        rfl
       rw[e1]at Hc;exact Hc)
      rw[show(g4 id fin (L.take k) l t' Ax cx).strs.length=1 from rfl];obtain⟨ad20,rfl,k0⟩:=Gt;clear Hc g5;go_wp2_with fail;go_ret;exact⟨rfl,He.out.toBelow Hl.out Hm.out⟩
     |false=>
      have Hp:openS rules4 l req0=none:=by
       have h1:=HU.out;rw[hf]at h1;cases ho:openS rules4 l req0 with
       |none=>rfl
       |some _=>rw[ho]at h1;cases h1
      have HD:=Lib.hid hf;refine(feed_any w13 ow12 b _ L12 _ 1 A13 _ c13 _ hP.out hO.out he.out.rd (he.out.tagged hq.out.new) rfl hX (runs_g3 id fin (L.take k) (L.drop k) l t' h2.out.2.2 h2.out.2.1 HT.out Ge.out Hp)).mono ?_;rintro e w14 ⟨M14,A14,c14,ow14,L14,rfl,rfl,h4,hu,hA,_,_,_⟩;rw[show(g3 id fin (L.take k) t').evs.length=0 from rfl];have hC:=Lib.hid (show CN w14 ow14 b (g3 id fin (L.take k) t') L14 from hu);have h6:=Lib.hid (ht.out.trans hA);clear h4 hu hA hX hO ht hP he hq H7 Hp hf;have hY:=Lib.hid (h6.out.toBelow Hl.out Hm.out);go_wp2_with fail;refine(ropen_any A n c l w14 (HR.out.below hY.out) HV.out (by have:=HH.out;omega) HH.out.2.2.2.1 false HD.out).mono ?_;rintro e w15 ⟨q1,q2,q3,q4,q5,q6,q7,rfl,h7⟩;rw[show trC false=112 from rfl];have h8:=Lib.hid (h7.alloc h7.size (.cells #[.string q1,.string q2,.string q3,.string q4,.slice q5 q6 q7] 57));clear h7;go_upto_region 25 with fail;generalize w15.alloc (.cells #[.string q1,.string q2,.string q3,.string q4,.slice q5 q6 q7] 57)=w16 at*
      have hD:=Lib.hid (hC.out.below h8.out);have hQ:=Lib.hid (h6.out.trans (Fr.below h8.out ow14));clear hC h6 hY;go_wp2_with fail;refine(num_rd 1 w16 (by decide)).mono ?_;rintro e w17 ⟨rfl,g6,hi⟩;have g7:=Lib.hid g6;have hG:=Lib.hid hi;clear g6 hi;go_wp2_with fail;refine(lawFrame_any (some ⟨w16.heap.size,0,none⟩) 4 4 3 0 id w17.heap.size (be 1 4) w17 g7.out (Nat.le_refl _) (by decide) (by decide) (by decide) h2.out.2.1).mono ?_;rintro e w18 ⟨A18,c18,rfl,hR,g8⟩;have g9:=Lib.hid (hG.out.trans (g8.mono hG.out.size));have hF:=Lib.hid (hD.out.below g9.out);have H9:=Lib.hid (hQ.out.trans (Fr.below g9.out ow14));have gf:=Lib.hid (show Oz w18 (λg=>w16.heap.size<=g/\ow14 g= .no) (.slice A18 (9+4) c18) (frameB 3 0 id (be 1 4))from Oz.of_ow hR (λg e=>⟨Nat.le_trans hG.out.size (hR.lt e).2,hD.out.new g (Nat.le_trans hG.out.size (hR.lt e).2)⟩));clear hR g8 hG g7 hD hQ;go_wp2_with fail;refine(streams_any w18 ow14 b _ L14 hF.out List.Pairwise.nil (Nat.zero_le _)).mono ?_;rintro e w19 ⟨A19,c19,rfl,_,h3⟩;rw[show(g3 id fin (L.take k) t').strs.length=0 from rfl];have Ha:=Lib.hid (hF.out.below h3);have Hb:=Lib.hid (H9.out.trans (Fr.below h3 ow14));have gg:=Lib.hid (gf.out.keep (λg hg _=>h3.block g hg) h3.size);clear h3;go_wp2_with fail;refine(output_still w19 ow14 b _ L14 Ha.out List.Pairwise.nil (Nat.zero_le _) (λs hs=>by cases hs) (.inr λs hs=>by cases hs)).mono ?_;rintro e w20 ⟨A20,c20,ow20,L20,rfl,_,ga,_,gE,Hg⟩;have He:=Lib.hid (Hb.out.trans Hg);have Hh:=Lib.hid ga;have gF:=Lib.hid (oz_fed2 gg.out Hg).rd;clear gE Hg ga;rw[g3_out]at Hh ⊢;generalize (frameB 3 0 id (be 1 4)).length=nO at Hh ⊢;go_wp2_with fail;refine(sameBytes_any A20 A18 nO _ c20 c18 _ _ w20 _ _ Hh.out gF.out).mono ?_;rintro e w21 ⟨rfl,hw⟩;subst w21;rw[show decide (frameB 3 0 id (be 1 4)=frameB 3 0 id (be 1 4))=true from decide_eq_true rfl];go_wp2_with fail;go_ret;exact⟨rfl,He.out.toBelow Hl.out Hm.out⟩
end Go.Proofs.YtkpppjhbmnfmkaaGreatDoor
