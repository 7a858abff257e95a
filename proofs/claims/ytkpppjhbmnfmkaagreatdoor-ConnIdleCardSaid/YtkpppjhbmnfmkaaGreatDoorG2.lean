import Derived.Test.YtkpppjhbmnfmkaaGreatDoorF6
import Derived.BigQuiet
set_option linter.unusedSimpArgs false
set_option linter.unusedVariables false
set_option maxHeartbeats 4000000
set_option maxRecDepth 100000
namespace Go.Proofs.YtkpppjhbmnfmkaaGreatDoor
open Go.RowKit Go.Own Go.Own.Im Go.Own.Cx Go.Own.Fr
theorem CN.begins {w:World} {ow:Nat->Tg} {b:Nat} {M:Cv} {L:Lay} (h:CN w ow b M L) (id:Nat) (fin:Bool):
 CN ((w.alloc (.cells #[.int .i64 (id:Nat),.bool fin,.slice none 0 0] 195)).setCell ⟨b,16,none⟩ (.pointer (some ⟨w.heap.size,0,none⟩))) (upd ow w.heap.size .lst) b {M with list:=some (id,fin,[])} {L with list:=.pointer (some ⟨w.heap.size,0,none⟩)}/\
 Fr w ow ((w.alloc (.cells #[.int .i64 (id:Nat),.bool fin,.slice none 0 0] 195)).setCell ⟨b,16,none⟩ (.pointer (some ⟨w.heap.size,0,none⟩))) (upd ow w.heap.size .lst):=by
 have h0:ow w.heap.size= .no:=h.new _ (Nat.le_refl _);have hb:=(Below.refl w.heap.size w).alloc (Nat.le_refl _) (.cells #[.int .i64 (id:Nat),.bool fin,.slice none 0 0] 195);have h1:=(h.below hb).tag h0 (by simp) .lst;have h2:=h1.cell (M':={M with list:=some (id,fin,[])}) (L':={L with list:=.pointer (some ⟨w.heap.size,0,none⟩)}) 16 (.pointer (some ⟨w.heap.size,0,none⟩)) rfl
  ⟨h1.p.fed,h1.p.out,h1.p.ev,h1.p.inw,h1.p.ti,h1.p.outw,h1.p.tu,h1.p.map,h1.p.tm,h1.p.strs,⟨w.heap.size,.slice none 0 0,rfl,upd_same _ _ _,Blk.new w 195 _,Oz.nil _ _⟩,h1.p.enc,h1.p.dec⟩
 exact⟨h2.1,(Fr.belowTag hb ow (Nat.le_refl _) .lst).trans h2.2⟩
theorem works1_any (w:World) (ow:Nat->Tg) (b g:Nat) (M:Cv) (S:Cv->Prop) (L:Lay) (i:Inf) (sv dv sz:Value) (h:CN w ow b M L) (hg:Blk w g 26 #[.pointer (some ⟨b,0,none⟩)]) (h4:ow g= .no) (h0:M.side=2) (hid:i.stream % 2=1)
 (hp:∀W ow' L',CN W ow' b {M with list:=some (i.stream,i.endd,[])} L'->Fr w ow W ow'->Calls Tryz.prog 150 #[.pointer (some ⟨b,0,none⟩),.agg (infC i sv dv)] W (CPostS W ow' b S (.tuple #[]))):
 Calls Tryz.prog 149 #[.agg (infC i sv dv),sz,.pointer (some ⟨g,0,none⟩)] w (CPostS w ow b S (.tuple #[])):=by
 have HX:=Lib.hid (Blk.new w 91 (infC i sv dv));have h3:=Lib.hid ((Below.refl w.heap.size w).alloc (Nat.le_refl _) (.cells (infC i sv dv) 91));have HC:=Lib.hid h;have HG:=Lib.hid hg;have h9:=Lib.hid h4;have HP:=Lib.hid hp;have hm:((i.stream:Int).tmod 2)=1:=by
  have:((i.stream:Int).tmod 2)=((i.stream % 2:Nat):Int):=rfl;rw[this,hid];rfl
 have hf:((i.stream:Int) % 2)=1:=by
  have:((i.stream:Int) % 2)=((i.stream % 2:Nat):Int):=rfl;rw[this,hid];rfl
 have HS:=Lib.hid h0;clear h hg h4 hp h0;go_enter Tryz.func149,Tryz.ntmps149;go_upto_region 1 with fail;generalize w.alloc (.cells (infC i sv dv) 91)=W0 at*
 have h2:=Lib.hid (HC.out.below h3.out);have h5:=Lib.hid (HG.out.below h3.out HG.out.lt);have c0:W0.cell? ⟨b,0,none⟩=some (.int .i64 (M.side:Nat)):=h2.out.blk.cell 0;rw[HS.out]at c0;have g0:W0.cell? ⟨g,0,none⟩=some (.pointer (some ⟨b,0,none⟩)):=h5.out.cell 0;have x2:W0.cell? ⟨w.heap.size,2,none⟩=some (.int .i64 (i.stream:Nat)):=HX.out.cell 2;have x3:W0.cell? ⟨w.heap.size,3,none⟩=some (.bool i.endd):=HX.out.cell 3;go_upto_region 3 with fail;have HN:=Lib.hid (h2.out.begins i.stream i.endd);have f16:(W0.alloc (.cells #[.int .i64 (i.stream:Nat),.bool i.endd,.slice none 0 0] 195)).frozen? ⟨b,16,none⟩=false:=(h2.out.blk.alloc _).frozen 16;have y16:(W0.alloc (.cells #[.int .i64 (i.stream:Nat),.bool i.endd,.slice none 0 0] 195)).cell? ⟨b,16,none⟩=some L.list:=(h2.out.blk.alloc _).cell 16;go_upto_region 4 with fail;have hb:=Lib.hid HN.out.1;have h6:=Lib.hid ((Fr.below h3.out ow).trans HN.out.2);have h7:g≠b:=λe=>by have h1:=h9.out;rw[e,HC.out.tb]at h1;cases h1
 have h8:w.heap.size≠b:=by have:=HC.out.blk.lt;omega
 have hc:=Lib.hid ((h5.out.alloc (.cells #[.int .i64 (i.stream:Nat),.bool i.endd,.slice none 0 0] 195)).far (p:=⟨b,16,none⟩) h7 (.pointer (some ⟨W0.heap.size,0,none⟩)));have hd:=Lib.hid ((HX.out.alloc (.cells #[.int .i64 (i.stream:Nat),.bool i.endd,.slice none 0 0] 195)).far (p:=⟨b,16,none⟩) h8 (.pointer (some ⟨W0.heap.size,0,none⟩)));clear h7 h8 f16 y16 HN c0 g0 x2 x3;generalize (W0.alloc (.cells #[.int .i64 (i.stream:Nat),.bool i.endd,.slice none 0 0] 195)).setCell ⟨b,16,none⟩ (.pointer (some ⟨W0.heap.size,0,none⟩))=W1 at*
 have g0:W1.cell? ⟨g,0,none⟩=some (.pointer (some ⟨b,0,none⟩)):=hc.out.cell 0;have he:=Lib.hid (show(Tryz.prog.info? 91).map (·.size)=some (infC i sv dv).size from infSize);go_wp2_with (first
  |(refine wpList_rowGet _ rfl (.tmp 3) 91 rfl w.heap.size 91 _ rfl hd.out _ Tryz.underlying91 rfl he.out ?_)
  |fail)
 refine(HP.out W1 _ _ hb.out h6.out).mono ?_;intro e w2 hp;obtain rfl:=hp.ret;have HQ:=Lib.hid hp;clear hp;go_wp2;go_end0;exact HQ.out.trans h6.out
end Go.Proofs.YtkpppjhbmnfmkaaGreatDoor
