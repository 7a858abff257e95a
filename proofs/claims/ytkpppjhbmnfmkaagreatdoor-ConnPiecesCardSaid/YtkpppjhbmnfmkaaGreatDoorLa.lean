import Derived.Test.YtkpppjhbmnfmkaaGreatDoorJba
import Derived.Test.YtkpppjhbmnfmkaaGreatDoorJan
import Derived.Test.YtkpppjhbmnfmkaaGreatDoorJaq
set_option linter.unusedSimpArgs false
set_option linter.unusedVariables false
set_option maxHeartbeats 4000000
set_option maxRecDepth 100000
namespace Go.Proofs.YtkpppjhbmnfmkaaGreatDoor
open Go.RowKit Go.Own Go.Own.Im Go.Own.Cx Go.Own.Fr
def leaveM (M:Cv) (s:Sv):Cv:={dropM M s.id with inw:=M.inw+s.held,out:=M.out++gvB 0 s.held}
theorem leaves_any (w:World) (ow:Nat->Tg) (b:Nat) (M:Cv) (L:Lay) (s:Sv) (h:CN w ow b M L) (hs:s∈M.strs) (hh:s.held<=2147483647) (hid:s.id<=2147483647) (h5:(M.strs.map (·.id)).Nodup)
 (ha: -2147483647<=M.inw/\M.inw<=2147483647) (h0:M.inw+s.held<=2147483647) (ho:M.out.length<=1000000000):
 Calls Tryz.prog 110 #[.pointer (some ⟨b,0,none⟩),.pointer (some ⟨(L.s s.id).sb,0,none⟩)] w (CPost w ow b (leaveM M s) (.tuple #[])):=by
 have HC:=Lib.hid h;have h4:=(h.p.strs s hs).blk;have hd:=Lib.hid h4;have HT:=Lib.hid (h.p.strs s hs).tb;have h6:(Lit.int .i64 (s.id:Int)).wf=true:=by simp[Lit.wf,IntKind.min,IntKind.max,IntKind.bits,IntKind.signed];omega
 have HW:=Lib.hid h6;have he:=Lib.hid (show s.id∈M.strs.map (·.id)from List.mem_map.2 ⟨s,hs,rfl⟩);have hf:=Lib.hid h5;have h3:=Lib.hid (show _/\_/\_/\_ from⟨hh,ha,h0,ho⟩);have c15:w.drew.cell? ⟨b,15,none⟩=some (.map (some L.mb)):=h.blk.cell 15;have s0:w.drew.cell? ⟨(L.s s.id).sb,0,none⟩=some (.int .i64 (s.id:Nat)):=h4.cell 0;clear h hs hh hid h5 h4 h6 ha h0 ho;go_enter Tryz.func110,Tryz.ntmps110;go_wp2_with fail;go_region_law (first
  |(refine step_drops rfl (.tmp 7) (.tmp 11) rfl rfl rfl (show CN w.drew ow b M L from HC.out.drew) HW.out he.out hf.out ?_
    intro w1 h7 h8 h9;have hi:=Lib.hid h7;have hj:=Lib.hid h8;have hk:=Lib.hid h9;clear h7 h8 h9))
 all_goals
  have h2:=(show Blk w.drew (L.s s.id).sb 122 (stC s (L.s s.id))from hd.out).grown hk.out (λe=>by injection e with e;have h1:=HT.out;rw[e,HC.out.p.tm]at h1;cases h1);have s9:w1.cell? ⟨(L.s s.id).sb,9,none⟩=some (.int .i64 (s.held:Nat)):=h2.cell 9;have HG:=Lib.hid (gives_connG w1 ow b (dropM M s.id) L s.held hi.out h3.out.1 h3.out.2.1 h3.out.2.2.1 h3.out.2.2.2);clear h2;go_wp2_with fail;refine HG.out.mono ?_;intro e w2 hp;obtain rfl:=hp.cp.ret;obtain⟨ow2,L2,_,hb,hc,_⟩:=hp;have hl:=Lib.hid hb;have hm:=Lib.hid hc;clear hb hc;go_wp2;go_end0;exact⟨ow2,L2,rfl,hl.out,(Fr.drewN w ow 1).trans (hj.out.trans hm.out)⟩
def rstM (M:Cv) (s:Sv) (c:Nat):Cv:=leaveM {M with out:=M.out++frameB 3 0 s.id (be c 4),evs:=M.evs++[{kind:=4,stream:=s.id,code:=c}]} s
theorem faulty_rst (w:World) (ow:Nat->Tg) (b:Nat) (M:Cv) (L:Lay) (c:Nat) (s:Sv) (h:CN w ow b M L) (h3:strAt M (s.id:Int)=some s) (hid:s.id≠0/\s.id<=2147483647) (h4:(M.strs.map (·.id)).Nodup) (hh:s.held<=2147483647)
 (ha: -2147483647<=M.inw/\M.inw<=2147483647) (h0:M.inw+s.held<=2147483647) (hc:c<4294967296) (ho:M.out.length<=900000000) (hn:M.evs.length<=900000):
 Calls Tryz.prog 69 #[.pointer (some ⟨b,0,none⟩),.agg #[.int .i64 (c:Nat),.int .i64 (s.id:Nat)]] w (CPost w ow b (rstM M s c) (.tuple #[])):=by
 have HX:=Lib.hid (Blk.new w 143 #[.int .i64 (c:Nat),.int .i64 (s.id:Nat)]);have h5:=Lib.hid ((Below.refl w.heap.size w).alloc (Nat.le_refl _) (.cells #[.int .i64 (c:Nat),.int .i64 (s.id:Nat)] 143));have HC:=Lib.hid h;have HH:=Lib.hid (show _/\_/\_/\_/\_/\_/\_/\_ from⟨hc,ho,hn,hh,ha,h0,hid,h4⟩);have h6:=Lib.hid (h.new w.heap.size (Nat.le_refl _));have h7:=Lib.hid h3;have k1:((0:Int)<(s.id:Int))=True:=by simp;omega
 have k1n:(0<s.id)=True:=by simp;omega
 have k2:((s.id:Int)>0)=True:=by simp;omega
 have h8:(Lit.int .i64 (s.id:Int)).wf=true:=by simp[Lit.wf,IntKind.min,IntKind.max,IntKind.bits,IntKind.signed];omega
 clear h hc ho hn hh ha h0 hid h4 h3;go_enter Tryz.func69,Tryz.ntmps69;go_upto_region 1 with fail;generalize w.alloc (.cells #[.int .i64 (c:Nat),.int .i64 (s.id:Nat)] 143)=W0 at*
 have h1:=Lib.hid (HC.out.below h5.out);have x0:W0.cell? ⟨w.heap.size,0,none⟩=some (.int .i64 (c:Nat)):=HX.out.cell 0;have x1:W0.cell? ⟨w.heap.size,1,none⟩=some (.int .i64 (s.id:Nat)):=HX.out.cell 1;have c15:W0.cell? ⟨b,15,none⟩=some (.map (some L.mb)):=h1.out.blk.cell 15;have hk:=λn=>look_str (h1.out.drewN n) (s.id:Int) h8;rw[(at_some h7.out).1]at hk;clear h8;go_quiet (fail);have HP:=λn=>put_anyL _ ow b _ L _ _ (h1.out.drewN n) rfl (bld_reset (W0.drewN n) s.id c HH.out.2.2.2.2.2.2.1.1 HH.out.2.2.2.2.2.2.1.2 HH.out.1) (by have:=HH.out.2.1;omega);rw[infC_reset,flg_reset,pay_reset]at HP;have HP:=Lib.hid HP;have c0':=x0;have c1':=x1;go_wp2_with (first
  |(go_at_call 39
    refine(HP.out _).mono ?_;intro e w2 hp;obtain rfl:=hp.cp.ret;obtain⟨ow2,L2,_,h9,hb,hd⟩:=hp;have hl:=Lib.hid h9;have h2:=Lib.hid ((Fr.drewN W0 ow _).trans hb);have hm:=Lib.hid hd;have y0:w2.cell? ⟨w.heap.size,0,none⟩=some (.int .i64 (c:Nat)):=(h2.out.blk HX.out h6.out).cell 0;have y1:w2.cell? ⟨w.heap.size,1,none⟩=some (.int .i64 (s.id:Nat)):=(h2.out.blk HX.out h6.out).cell 1;clear h9 hb hd)
  |fail)
 have HT:=tell_anyL w2 ow2 b _ L2 {kind:=4,stream:=s.id,code:=c} hl.out (evOk_plain w2 ow2 4 s.id c 0 false) HH.out.2.2.1;rw[evC_plain]at HT;refine HT.mono ?_;intro e w3 hp;obtain rfl:=hp.cp.ret;obtain⟨ow3,L3,_,he,hf,hi⟩:=hp;have hq:=Lib.hid he;have hs:=Lib.hid (h2.out.trans hf);have hj:=leaves_any w3 ow3 b _ L3 s hq.out (at_some (L:=L3) h7.out).2.1 HH.out.2.2.2.1 HH.out.2.2.2.2.2.2.1.2 HH.out.2.2.2.2.2.2.2 HH.out.2.2.2.2.1 HH.out.2.2.2.2.2.1 (by have:=HH.out.2.1;simp only[List.length_append,frameB_len,be_len];omega);rw[hi,hm.out]at hj;clear he hf HT hi;go_wp2_with fail;refine hj.mono ?_;intro e w4 hp;obtain rfl:=hp.ret;obtain⟨ow4,L4,_,ht,hu⟩:=hp;go_wp2;go_end0;exact⟨ow4,L4,rfl,ht,(Fr.below h5.out ow).trans (hs.out.trans hu)⟩
theorem faulty_lost (w:World) (ow:Nat->Tg) (b:Nat) (M:Cv) (L:Lay) (c s:Nat) (h:CN w ow b M L) (h0:s≠0) (hs9:s<=2147483647) (h3:strAt M (s:Int)=none) (hk:knownB M s=false) (hc:c<4294967296) (hl:M.last<=2147483647) (ho:M.out.length<=1000000000) (hn:M.evs.length<=900000):
 Calls Tryz.prog 69 #[.pointer (some ⟨b,0,none⟩),.agg #[.int .i64 (c:Nat),.int .i64 (s:Nat)]] w (CPost w ow b (deadM M c) (.tuple #[])):=by
 have HX:=Lib.hid (Blk.new w 143 #[.int .i64 (c:Nat),.int .i64 (s:Nat)]);have h4:=Lib.hid ((Below.refl w.heap.size w).alloc (Nat.le_refl _) (.cells #[.int .i64 (c:Nat),.int .i64 (s:Nat)] 143));have HC:=Lib.hid h;have HH:=Lib.hid (show _/\_/\_/\_ from⟨hc,hl,ho,hn⟩);have h5:=Lib.hid (h.new w.heap.size (Nat.le_refl _));have HK:=Lib.hid (λW (hW:CN W ow b M L)=>(show Calls Tryz.prog 111 #[.pointer (some ⟨b,0,none⟩),.int .i64 (s:Nat)] W (λe w'=>e= .returned (.bool false)/\w'=W)from by
  have h:=known_any W ow b M L s hW;rw[show decide (s % 2=1/\s<=M.last)=false from hk]at h;exact h))
 have hi:=Lib.hid h3;have k1:((0:Int)<(s:Int))=True:=by simp;omega
 have k1n:(0<s)=True:=by simp;omega
 have k2:((s:Int)>0)=True:=by simp;omega
 have h6:(Lit.int .i64 (s:Int)).wf=true:=by simp[Lit.wf,IntKind.min,IntKind.max,IntKind.bits,IntKind.signed];omega
 clear h hc hl ho hn hk h3 h0 hs9;go_enter Tryz.func69,Tryz.ntmps69;go_upto_region 1 with fail;generalize w.alloc (.cells #[.int .i64 (c:Nat),.int .i64 (s:Nat)] 143)=W0 at*
 have h2:=Lib.hid (HC.out.below h4.out);have x0:W0.cell? ⟨w.heap.size,0,none⟩=some (.int .i64 (c:Nat)):=HX.out.cell 0;have x1:W0.cell? ⟨w.heap.size,1,none⟩=some (.int .i64 (s:Nat)):=HX.out.cell 1;have c15:W0.cell? ⟨b,15,none⟩=some (.map (some L.mb)):=h2.out.blk.cell 15;have h7:=λn=>look_str (h2.out.drewN n) (s:Int) h6;rw[at_none hi.out]at h7;clear h6;go_quiet (fail);have hj:=Lib.hid (λn=>bound_any (W0.drewN n) ow b M L c (h2.out.drewN n) HH.out.1 HH.out.2.1 HH.out.2.2.1);have c0':=x0;have hm:=Lib.hid (λn=>HK.out (W0.drewN n) (h2.out.drewN n));go_upto_region 9 with(first
  |(go_at_call 111
    with_reducible refine Calls.mono (hm.out _) ?_
    rintro e w2 ⟨rfl,hw⟩;subst w2)
  |(go_at_call 112
    refine(hj.out _).mono ?_;intro e w2 hp;obtain rfl:=hp.ret;obtain⟨ow2,L2,_,h8,h9⟩:=hp;have hq:=Lib.hid h8;have hb:=Lib.hid ((Fr.drewN W0 ow _).trans h9);have y0:w2.cell? ⟨w.heap.size,0,none⟩=some (.int .i64 (c:Nat)):=(hb.out.blk HX.out h5.out).cell 0;clear h8 h9)
  |fail)
 have HT:=tell_anyL w2 ow2 b _ L2 {kind:=8,code:=c} hq.out (evOk_plain w2 ow2 8 0 c 0 false) HH.out.2.2.2;rw[evC_plain]at HT;refine HT.mono ?_;intro e w3 hp;obtain rfl:=hp.cp.ret;obtain⟨ow3,L3,_,hd,he,_⟩:=hp;have h1:=Lib.hid hd;have hf:=Lib.hid (hb.out.trans he);have z0:w3.cell? ⟨w.heap.size,0,none⟩=some (.int .i64 (c:Nat)):=(hf.out.blk HX.out h5.out).cell 0;clear hd he HT;go_upto_region 9 with fail;have g19:=h1.out.blk.frozen 19;have g20:=h1.out.blk.frozen 20;have g3:=h1.out.blk.frozen 3;have g16:=h1.out.blk.frozen 16;have k19:w3.cell? ⟨b,19,none⟩=some (.bool M.dead):=h1.out.blk.cell 19;have k20:w3.cell? ⟨b,20,none⟩=some (.int .i64 (M.code:Nat)):=h1.out.blk.cell 20;have k3:w3.cell? ⟨b,3,none⟩=some L3.fed:=h1.out.blk.cell 3;have k16:w3.cell? ⟨b,16,none⟩=some L3.list:=h1.out.blk.cell 16;clear c0' x0 x1 c15 h7 y0;go_region;all_goals
  have a1:=h1.out.dies;have a2:=a1.1.codes c;have a3:=a2.1.unfeds;have a4:=a3.1.unlist0;have hh:=Lib.hid (show CN (((((w3.setCell ⟨b,19,none⟩ (.bool true)).setCell ⟨b,20,none⟩ (.int .i64 (c:Nat))).setCell ⟨b,3,none⟩ (.slice none 0 0)).setCell ⟨b,16,none⟩ (.pointer none)).drew) ow3 b _ _ from a4.1.drew);have hs:=Lib.hid ((((hf.out.trans a1.2).trans a2.2).trans a3.2).trans a4.2).drew;clear a1 a2 a3 a4 g19 g20 g3 g16 k19 k20 k3 k16 z0;generalize ((((w3.setCell ⟨b,19,none⟩ (.bool true)).setCell ⟨b,20,none⟩ (.int .i64 (c:Nat))).setCell ⟨b,3,none⟩ (.slice none 0 0)).setCell ⟨b,16,none⟩ (.pointer none)).drew=W4 at*
  have k15:W4.cell? ⟨b,15,none⟩=some (.map (some L3.mb)):=hh.out.blk.cell 15;obtain⟨w5,hA,ht,hu⟩:=hh.out.clears 0;go_wp2;go_end0;exact⟨ow3,_,rfl,ht,(Fr.below h4.out ow).trans (hs.out.trans hu)⟩
theorem faulty_past (w:World) (ow:Nat->Tg) (b:Nat) (M:Cv) (L:Lay) (c s:Nat) (h:CN w ow b M L) (h0:s≠0) (hs9:s<=2147483647) (h2:strAt M (s:Int)=none) (hk:knownB M s=true):
 Calls Tryz.prog 69 #[.pointer (some ⟨b,0,none⟩),.agg #[.int .i64 (c:Nat),.int .i64 (s:Nat)]] w (CPost w ow b M (.tuple #[])):=by
 have HX:=Lib.hid (Blk.new w 143 #[.int .i64 (c:Nat),.int .i64 (s:Nat)]);have h3:=Lib.hid ((Below.refl w.heap.size w).alloc (Nat.le_refl _) (.cells #[.int .i64 (c:Nat),.int .i64 (s:Nat)] 143));have HC:=Lib.hid h;have HK:=Lib.hid (λW (hW:CN W ow b M L)=>(show Calls Tryz.prog 111 #[.pointer (some ⟨b,0,none⟩),.int .i64 (s:Nat)] W (λe w'=>e= .returned (.bool true)/\w'=W)from by
  have h:=known_any W ow b M L s hW;rw[show decide (s % 2=1/\s<=M.last)=true from hk]at h;exact h))
 have h5:=Lib.hid h2;have k1:((0:Int)<(s:Int))=True:=by simp;omega
 have k1n:(0<s)=True:=by simp;omega
 have k2:((s:Int)>0)=True:=by simp;omega
 have h4:(Lit.int .i64 (s:Int)).wf=true:=by simp[Lit.wf,IntKind.min,IntKind.max,IntKind.bits,IntKind.signed];omega
 clear h hk h2 h0 hs9;go_enter Tryz.func69,Tryz.ntmps69;go_upto_region 1 with fail;generalize w.alloc (.cells #[.int .i64 (c:Nat),.int .i64 (s:Nat)] 143)=W0 at*
 have h1:=Lib.hid (HC.out.below h3.out);have x0:W0.cell? ⟨w.heap.size,0,none⟩=some (.int .i64 (c:Nat)):=HX.out.cell 0;have x1:W0.cell? ⟨w.heap.size,1,none⟩=some (.int .i64 (s:Nat)):=HX.out.cell 1;have c15:W0.cell? ⟨b,15,none⟩=some (.map (some L.mb)):=h1.out.blk.cell 15;have h6:=λn=>look_str (h1.out.drewN n) (s:Int) h4;rw[at_none h5.out]at h6;clear h4;go_quiet (fail);have h7:=Lib.hid (λn=>HK.out (W0.drewN n) (h1.out.drewN n));go_wp2_with (first
  |(go_at_call 111
    with_reducible refine Calls.mono (h7.out _) ?_
    rintro e w2 ⟨rfl,hw⟩;subst w2)
  |fail)
 go_end0;exact⟨ow,L,rfl,h1.out.drewN _,(Fr.below h3.out ow).trans (Fr.drewN W0 ow _)⟩
end Go.Proofs.YtkpppjhbmnfmkaaGreatDoor
