/-
  
  
-/
import Derived.Test.YtkpppjhbmnfmkaaGreatDoorLa
import Derived.Test.YtkpppjhbmnfmkaaGreatDoorJam
import Derived.Test.YtkpppjhbmnfmkaaGreatDoorJay
import Derived.Test.YtkpppjhbmnfmkaaGreatDoorJao
import Derived.Deep.RegionHeld3
set_option linter.unusedSimpArgs false
set_option linter.unusedVariables false
section
set_option maxHeartbeats 4000000
set_option maxRecDepth 100000
namespace Go.Proofs.YtkpppjhbmnfmkaaGreatDoor
open Go.RowKit Go.Own Go.Own.Im Go.Own.Cx Go.Own.Fr
def goneM (M:Cv) (s:Sv) (c:Nat):Cv:=leaveM {M with evs:=M.evs++[{kind:=4,stream:=s.id,code:=c}]} s
theorem reset_some (w:World) (ow:Nat->Tg) (b g:Nat) (M:Cv) (L:Lay) (s:Sv) (i:Inf) (sv dv sz:Value) (h:CN w ow b M L) (hg:Blk w g 26 #[.pointer (some ⟨b,0,none⟩)]) (h4:ow g= .no) (hi:i.stream=s.id) (hk:knownB M s.id=true) (h2:strAt M (s.id:Int)=some s) (hid:s.id<=2147483647)
 (h5:(M.strs.map (·.id)).Nodup) (hh:s.held<=2147483647) (ha: -2147483647<=M.inw/\M.inw<=2147483647) (h1:M.inw+s.held<=2147483647) (ho:M.out.length<=1000000000) (hn:M.evs.length<=900000):
 Calls Tryz.prog 153 #[.agg (infC i sv dv),sz,.pointer (some ⟨g,0,none⟩)] w (CPost w ow b (goneM M s i.code) (.tuple #[])):=by
 have HX:=Lib.hid (Blk.new w 91 (infC i sv dv));have h0:=Lib.hid ((Below.refl w.heap.size w).alloc (Nat.le_refl _) (.cells (infC i sv dv) 91));have HC:=Lib.hid h;have HG:=Lib.hid hg;have h9:=Lib.hid h4;have HH:=Lib.hid (show _/\_/\_/\_/\_/\_/\_ from⟨hid,h5,hh,ha,h1,ho,hn⟩);have hb:=Lib.hid h2;have HI:=Lib.hid (idle_ok _ ow b M L s.id (h.below h0.out) hk (by simp[Lit.wf,IntKind.min,IntKind.max,IntKind.bits,IntKind.signed];omega));rw[(at_some h2).1]at HI;have hc:=Lib.hid hi;clear h hg h4 hi hk h2 hid h5 hh ha h1 ho hn;go_enter Tryz.func153,Tryz.ntmps153;go_upto_region 1 with fail;generalize w.alloc (.cells (infC i sv dv) 91)=W0 at*
 have hd:=Lib.hid (HC.out.below h0.out);have x2:W0.cell? ⟨w.heap.size,2,none⟩=some (.int .i64 (i.stream:Nat)):=HX.out.cell 2;rw[hc.out]at x2;have x12:W0.cell? ⟨w.heap.size,12,none⟩=some (.int .i64 (i.code:Nat)):=HX.out.cell 12;have g0:W0.cell? ⟨g,0,none⟩=some (.pointer (some ⟨b,0,none⟩)):=(HG.out.below h0.out HG.out.lt).cell 0;go_wp2_with fail;with_reducible refine HI.out.mono ?_
 rintro e w1 ⟨rfl,hw⟩;subst w1;go_wp2_with fail;have HT:=tell_anyL W0 ow b _ L {kind:=4,stream:=s.id,code:=i.code} hd.out (evOk_plain W0 ow 4 s.id i.code 0 false) HH.out.2.2.2.2.2.2;rw[evC_plain]at HT;refine HT.mono ?_;intro e w3 hp;obtain rfl:=hp.cp.ret;obtain⟨ow3,L3,_,h6,h3,h7⟩:=hp;have he:=Lib.hid h6;have hf:=Lib.hid h3;have g3:w3.cell? ⟨g,0,none⟩=some (.pointer (some ⟨b,0,none⟩)):=(h3.blk (HG.out.below h0.out HG.out.lt) h9.out).cell 0;have h8:=leaves_any w3 ow3 b _ L3 s he.out (at_some (L:=L3) hb.out).2.1 HH.out.2.2.1 HH.out.1 HH.out.2.1 HH.out.2.2.2.1 HH.out.2.2.2.2.1 HH.out.2.2.2.2.2.1;rw[h7]at h8;clear h6 h3 HT h7;go_wp2_with fail;refine h8.mono ?_;intro e w4 hp;obtain rfl:=hp.ret;obtain⟨ow4,L4,_,hj,hl⟩:=hp;go_wp2;go_end0;exact⟨ow4,L4,rfl,hj,(Fr.below h0.out ow).trans (hf.out.trans hl)⟩
theorem reset_none (w:World) (ow:Nat->Tg) (b g:Nat) (M:Cv) (L:Lay) (i:Inf) (sv dv sz:Value) (h:CN w ow b M L) (hg:Blk w g 26 #[.pointer (some ⟨b,0,none⟩)]) (hk:knownB M i.stream=true) (hst:strAt M (i.stream:Int)=none) (hid:i.stream<=2147483647):
 Calls Tryz.prog 153 #[.agg (infC i sv dv),sz,.pointer (some ⟨g,0,none⟩)] w (CPost w ow b M (.tuple #[])):=by
 have HX:=Lib.hid (Blk.new w 91 (infC i sv dv));have h0:=Lib.hid ((Below.refl w.heap.size w).alloc (Nat.le_refl _) (.cells (infC i sv dv) 91));have HC:=Lib.hid h;have h1:=Lib.hid (hg.below h0.out hg.lt);have HI:=Lib.hid (idle_ok _ ow b M L i.stream (h.below h0.out) hk (by simp[Lit.wf,IntKind.min,IntKind.max,IntKind.bits,IntKind.signed];omega));rw[at_none hst]at HI;clear h hg hk hst hid;go_enter Tryz.func153,Tryz.ntmps153;go_upto_region 1 with fail;generalize w.alloc (.cells (infC i sv dv) 91)=W0 at*
 have x2:W0.cell? ⟨w.heap.size,2,none⟩=some (.int .i64 (i.stream:Nat)):=HX.out.cell 2;have g0:W0.cell? ⟨g,0,none⟩=some (.pointer (some ⟨b,0,none⟩)):=h1.out.cell 0;go_wp2_with fail;with_reducible refine HI.out.mono ?_
 rintro e w1 ⟨rfl,hw⟩;subst w1;go_wp2;go_end0;exact⟨ow,L,rfl,HC.out.below h0.out,Fr.below h0.out ow⟩
end Go.Proofs.YtkpppjhbmnfmkaaGreatDoor
end

section
set_option maxHeartbeats 4000000
set_option maxRecDepth 100000
namespace Go.Proofs.YtkpppjhbmnfmkaaGreatDoor
open Go.RowKit Go.Own Go.Own.Im Go.Own.Cx Go.Own.Fr
theorem works7_more (w:World) (ow:Nat->Tg) (b g:Nat) (M:Cv) (L:Lay) (s:Sv) (i:Inf) (sv dv sz:Value) (h:CN w ow b M L) (hg:Blk w g 26 #[.pointer (some ⟨b,0,none⟩)]) (hk:knownB M s.id=true) (hh:strAt M (s.id:Int)=some s) (hi:i.stream=s.id) (hid:0<s.id/\s.id<=2147483647) (h0:1<=i.inc) (hn:i.inc<=2147483647) (ha: -2147483647<=s.outw/\s.outw<=2147483647) (h2:s.outw+i.inc<=2147483647):
 Calls Tryz.prog 158 #[.agg (infC i sv dv),sz,.pointer (some ⟨g,0,none⟩)] w (CPost w ow b {M with strs:=updS M.strs {s with outw:=s.outw+i.inc}} (.tuple #[])):=by
 have HX:=Lib.hid (Blk.new w 91 (infC i sv dv));have h6:=Lib.hid ((Below.refl w.heap.size w).alloc (Nat.le_refl _) (.cells (infC i sv dv) 91));have HC:=Lib.hid h;have HG:=Lib.hid hg;obtain⟨h1,h3,_⟩:=at_some (L:=L) hh;have hj:(Lit.int .i64 (s.id:Int)).wf=true:=by simp[Lit.wf,IntKind.min,IntKind.max,IntKind.bits,IntKind.signed];omega
 have HM:=Lib.hid (show _/\_/\_/\_/\_/\_ from⟨h3,hk,hj,h1,h0,ha⟩);have k0:((s.id:Int)=0)=False:=by simp;omega
 have k0':(s.id=0)=False:=by simp;omega
 have k00:((s.id:Int)==0)=false:=by simp;omega
 have HN:=Lib.hid hn;have hc:=Lib.hid h2;have hm:=Lib.hid hi;clear h hg hh hid h0 hn ha h2 hi h1 h3 hj hk;go_enter Tryz.func158,Tryz.ntmps158;go_upto_region 1 with fail;generalize w.alloc (.cells (infC i sv dv) 91)=W0 at*
 have h4:=Lib.hid (HC.out.below h6.out);have c2:W0.cell? ⟨w.heap.size,2,none⟩=some (.int .i64 (s.id:Nat)):=hm.out▸HX.out.cell 2;have c14:W0.cell? ⟨w.heap.size,14,none⟩=some (.int .i64 (i.inc:Nat)):=HX.out.cell 14;have g0:W0.cell? ⟨g,0,none⟩=some (.pointer (some ⟨b,0,none⟩)):=(HG.out.below h6.out HG.out.lt).cell 0;have HI:=Lib.hid (idle_ok W0 ow b M L s.id h4.out HM.out.2.1 HM.out.2.2.1);go_wp2_with fail;refine HI.out.mono ?_;rintro e w1 ⟨rfl,hw⟩;subst w1;rw[HM.out.2.2.2.1];have hS:=h4.out.p.strs s HM.out.1;have d4:W0.cell? ⟨(L.s s.id).sb,4,none⟩=some (.pointer (some ⟨(L.s s.id).ob,0,none⟩)):=hS.blk.cell 4;have h7:∀W,Blk W (L.s s.id).ob 177 #[.int .i64 s.outw]->Calls Tryz.prog 159 #[.pointer (some ⟨(L.s s.id).ob,0,none⟩),.int .i64 (i.inc:Nat)] W λe w'=>e= .returned .nilIface/\w'=W.setCell ⟨(L.s s.id).ob,0,none⟩ (.int .i64 (s.outw+(i.inc:Int))):=λW hW=>
  give_yes W (L.s s.id).ob s.outw i.inc hW HM.out.2.2.2.2.2 HM.out.2.2.2.2.1 hc.out HN.out
 have hd:=Lib.hid (h7 W0 hS.outw);have he:=Lib.hid (h7 W0.drew hS.outw);have ka:=h4.out.souts (s:=s) HM.out.1 (s.outw+(i.inc:Int));have kb:=h4.out.drew.souts (s:=s) HM.out.1 (s.outw+(i.inc:Int));have ho:=Lib.hid ka;have hq:=Lib.hid (show _/\_ from⟨kb.1,(Fr.drewN W0 ow 1).trans kb.2⟩);obtain⟨sb,h8⟩:∃x,(L.s s.id).sb=x:=⟨_,rfl⟩;have hs:=Lib.hid h8;have ht:=Lib.hid (HC.out.new w.heap.size (Nat.le_refl _));rw[h8]at d4 ⊢;have hu:=Lib.hid (show W0.cell? ⟨sb,4,none⟩=some (.pointer (some ⟨(L.s s.id).ob,0,none⟩))/\W0.cell? ⟨w.heap.size,14,none⟩=some (.int .i64 (i.inc:Nat))from⟨d4,c14⟩);have hf:=Lib.hid (show W0.drew.cell? ⟨sb,4,none⟩=some (.pointer (some ⟨(L.s s.id).ob,0,none⟩))/\W0.drew.cell? ⟨w.heap.size,14,none⟩=some (.int .i64 (i.inc:Nat))from⟨d4,c14⟩);clear hS c2 h7 ka kb h8;go_wp2_with fail;go_region_held3 (λW'=>W'.cell? ⟨sb,4,none⟩=some (.pointer (some ⟨(L.s s.id).ob,0,none⟩))/\W'.cell? ⟨w.heap.size,14,none⟩=some (.int .i64 (i.inc:Nat))) (first|with_reducible exact hu.out|with_reducible exact hf.out|with_reducible exact hA.out) (first
  |(go_at_call 159
    first|with_reducible refine Calls.mono hd.out ?_|with_reducible refine Calls.mono he.out ?_
    rintro e w3 ⟨rfl,h9⟩;have h5:CN w3 ow b {M with strs:=updS M.strs {s with outw:=s.outw+(i.inc:Int)}} L/\Fr W0 ow w3 ow:=by first|exact h9▸ho.out|exact h9▸hq.out
    have hl:=Lib.hid h5;have hb:=(h5.1.p.strs {s with outw:=s.outw+(i.inc:Int)} (mem_updS HM.out.1 rfl)).blk;rw[show(L.s ({s with outw:=s.outw+(i.inc:Int)}:Sv).id).sb=sb from hs.out]at hb;have hA:=Lib.hid (show w3.cell? ⟨sb,4,none⟩=some (.pointer (some ⟨(L.s s.id).ob,0,none⟩))/\w3.cell? ⟨w.heap.size,14,none⟩=some (.int .i64 (i.inc:Nat))from⟨hb.cell 4,(h5.2.blk HX.out ht.out).cell 14⟩);clear h9 h5 hb)
  |fail)
 go_wp2;go_end0;exact⟨ow,L,rfl,hl.out.1,(Fr.below h6.out ow).trans hl.out.2⟩
theorem works7_much (w:World) (ow:Nat->Tg) (b g:Nat) (M:Cv) (L:Lay) (s:Sv) (i:Inf) (sv dv sz:Value) (h:CN w ow b M L) (hg:Blk w g 26 #[.pointer (some ⟨b,0,none⟩)]) (hk:knownB M s.id=true) (hb:strAt M (s.id:Int)=some s) (hi:i.stream=s.id) (hid:0<s.id/\s.id<=2147483647) (h0:1<=i.inc) (hn:i.inc<=2147483647) (ha: -2147483647<=s.outw/\s.outw<=2147483647) (h3:2147483647<s.outw+i.inc) (he:ErrC w 11) (hsz:20<=w.heap.size):
 Calls Tryz.prog 158 #[.agg (infC i sv dv),sz,.pointer (some ⟨g,0,none⟩)] w λe w'=>e= .panicked (fltE 3 s.id)/\Below w.heap.size w w':=by
 have HX:=Lib.hid (Blk.new w 91 (infC i sv dv));have h2:=Lib.hid ((Below.refl w.heap.size w).alloc (Nat.le_refl _) (.cells (infC i sv dv) 91));have HC:=Lib.hid h;have HG:=Lib.hid hg;obtain⟨h1,h4,_⟩:=at_some (L:=L) hb;have hc:(Lit.int .i64 (s.id:Int)).wf=true:=by simp[Lit.wf,IntKind.min,IntKind.max,IntKind.bits,IntKind.signed];omega
 have HM:=Lib.hid (show _/\_/\_/\_/\_/\_ from⟨h4,hk,hc,h1,h0,ha⟩);have k0:((s.id:Int)=0)=False:=by simp;omega
 have k0':(s.id=0)=False:=by simp;omega
 have k00:((s.id:Int)==0)=false:=by simp;omega
 have HN:=Lib.hid hn;have HE:=Lib.hid (show ErrC _ 11 from Exists.imp (λ_ hx=>(h2.out.cell (p:=⟨11,0,none⟩) (Nat.lt_of_lt_of_le (by decide) hsz)).trans hx) he);have h6:=Lib.hid h3;have hd:=Lib.hid hi;clear he hsz h hg hb hid h0 hn ha h3 hi h1 h4 hc hk;go_enter Tryz.func158,Tryz.ntmps158;go_upto_region 1 with fail;generalize w.alloc (.cells (infC i sv dv) 91)=W0 at*
 have hf:=Lib.hid (HC.out.below h2.out);have c2:W0.cell? ⟨w.heap.size,2,none⟩=some (.int .i64 (s.id:Nat)):=hd.out▸HX.out.cell 2;have c14:W0.cell? ⟨w.heap.size,14,none⟩=some (.int .i64 (i.inc:Nat)):=HX.out.cell 14;have g0:W0.cell? ⟨g,0,none⟩=some (.pointer (some ⟨b,0,none⟩)):=(HG.out.below h2.out HG.out.lt).cell 0;have HI:=Lib.hid (idle_ok W0 ow b M L s.id hf.out HM.out.2.1 HM.out.2.2.1);go_wp2_with fail;refine HI.out.mono ?_;rintro e w1 ⟨rfl,hw⟩;subst w1;rw[HM.out.2.2.2.1];have hS:=hf.out.p.strs s HM.out.1;have d4:W0.cell? ⟨(L.s s.id).sb,4,none⟩=some (.pointer (some ⟨(L.s s.id).ob,0,none⟩)):=hS.blk.cell 4;have h5:∀W,Blk W (L.s s.id).ob 177 #[.int .i64 s.outw]->ErrC W 11->Calls Tryz.prog 159 #[.pointer (some ⟨(L.s s.id).ob,0,none⟩),.int .i64 (i.inc:Nat)] W λe w'=>(∃x,e= .returned (ev x))/\w'=W:=λW hW hE=>
  give_no W (L.s s.id).ob s.outw i.inc hW hE HM.out.2.2.2.2.2 HM.out.2.2.2.2.1 h6.out HN.out
 have h7:=Lib.hid (h5 W0 hS.outw HE.out);have h8:=Lib.hid (h5 W0.drew hS.outw HE.out);obtain⟨sb,hh⟩:∃x,(L.s s.id).sb=x:=⟨_,rfl⟩;rw[hh]at d4 ⊢;have hj:=Lib.hid (show W0.cell? ⟨sb,4,none⟩=some (.pointer (some ⟨(L.s s.id).ob,0,none⟩))/\W0.cell? ⟨w.heap.size,14,none⟩=some (.int .i64 (i.inc:Nat))from⟨d4,c14⟩);have h9:=Lib.hid (show W0.drew.cell? ⟨sb,4,none⟩=some (.pointer (some ⟨(L.s s.id).ob,0,none⟩))/\W0.drew.cell? ⟨w.heap.size,14,none⟩=some (.int .i64 (i.inc:Nat))from⟨d4,c14⟩);clear hS c2 h5 hh;go_wp2_with fail;go_region_held3 (λW'=>W'.cell? ⟨sb,4,none⟩=some (.pointer (some ⟨(L.s s.id).ob,0,none⟩))/\W'.cell? ⟨w.heap.size,14,none⟩=some (.int .i64 (i.inc:Nat))) (first|with_reducible exact hj.out|with_reducible exact h9.out) (first
  |(go_at_call 159
    first|with_reducible refine Calls.mono h7.out ?_|with_reducible refine Calls.mono h8.out ?_
    rintro e w3 ⟨⟨x,rfl⟩,hl⟩;subst w3;simp only[ev])
  |fail)
 all_goals
  have y2:W0.cell? ⟨w.heap.size,2,none⟩=some (.int .i64 (s.id:Nat)):=hd.out▸HX.out.cell 2;have y2d:W0.drew.cell? ⟨w.heap.size,2,none⟩=some (.int .i64 (s.id:Nat)):=y2;go_wp2_with fail;refine(give_any 3 s.id _).mono ?_;rintro e w4 ⟨rfl,hw⟩;subst w4;go_wp2;exact⟨rfl,rfl,by first|exact h2.out|exact below_drew h2.out⟩
theorem works7_gone (w:World) (ow:Nat->Tg) (b g:Nat) (M:Cv) (L:Lay) (i:Inf) (sv dv sz:Value) (h:CN w ow b M L) (hg:Blk w g 26 #[.pointer (some ⟨b,0,none⟩)]) (hk:knownB M i.stream=true) (hst:strAt M (i.stream:Int)=none) (h0:i.stream≠0) (hid:i.stream<=2147483647):
 Calls Tryz.prog 158 #[.agg (infC i sv dv),sz,.pointer (some ⟨g,0,none⟩)] w (CPost w ow b M (.tuple #[])):=by
 have HX:=Lib.hid (Blk.new w 91 (infC i sv dv));have h1:=Lib.hid ((Below.refl w.heap.size w).alloc (Nat.le_refl _) (.cells (infC i sv dv) 91));have HC:=Lib.hid h;have h2:=Lib.hid (hg.below h1.out hg.lt);have HI:=Lib.hid (idle_ok _ ow b M L i.stream (h.below h1.out) hk (by simp[Lit.wf,IntKind.min,IntKind.max,IntKind.bits,IntKind.signed];omega));rw[at_none hst]at HI;have k0:((i.stream:Int)=0)=False:=by simp;omega
 have k0':(i.stream=0)=False:=by simp;omega
 have k00:((i.stream:Int)==0)=false:=by simp;omega
 clear h hg hk hst h0 hid;go_enter Tryz.func158,Tryz.ntmps158;go_upto_region 1 with fail;generalize w.alloc (.cells (infC i sv dv) 91)=W0 at*
 have x2:W0.cell? ⟨w.heap.size,2,none⟩=some (.int .i64 (i.stream:Nat)):=HX.out.cell 2;have g0:W0.cell? ⟨g,0,none⟩=some (.pointer (some ⟨b,0,none⟩)):=h2.out.cell 0;go_wp2_with fail;with_reducible refine HI.out.mono ?_
 rintro e w1 ⟨rfl,hw⟩;subst w1;go_wp2_with fail;go_region;all_goals
  go_wp2;go_end0;exact⟨ow,L,rfl,by first|exact HC.out.below h1.out|exact(HC.out.below h1.out).drew,by first|exact Fr.below h1.out ow|exact(Fr.below h1.out ow).trans (Fr.drewN _ ow 1)⟩
end Go.Proofs.YtkpppjhbmnfmkaaGreatDoor
end
