/-
  
  
-/
import Derived.Test.YtkpppjhbmnfmkaaGreatDoorJav
import Derived.BigQuiet
set_option linter.unusedSimpArgs false
set_option linter.unusedVariables false
section
set_option maxHeartbeats 8000000
set_option maxRecDepth 100000
namespace Go.Proofs.YtkpppjhbmnfmkaaGreatDoor
open Lib (hid)
open Go.RowKit Go.Own Go.Own.Im Go.Own.Cx Go.Own.Fr
theorem takes_cont (M:Cv) (f s:Nat) (p:List UInt8) (hg:M.greeted=true) (hl:M.list=none) (hf:f<=255):TakesP M 9 f s p (λM'=>M'=M) 1 0:=by
 intro w ow b L A c hE h hr h4 hc;have hM:({M with greeted:=true}:Cv)=M:=by
  cases M;simp only at hg;subst hg
  rfl
 have HX:=hid (Blk.new w 24 #[.int .i64 9,.int .i64 (f:Nat),.int .i64 (s:Nat),.slice A p.length c]);have h2:=hid ((Below.refl w.heap.size w).alloc (Nat.le_refl _) (.cells #[.int .i64 9,.int .i64 (f:Nat),.int .i64 (s:Nat),.slice A p.length c] 24));have HC:=hid h;have e1:bits .and .i64 (f:Int) 1=((f&&& 1:Nat):Int):=and_nat f 1 (by omega) (by omega);obtain⟨q,hq⟩:∃q,f&&& 1=q:=⟨_,rfl⟩;rw[hq]at e1;have HL:=hid (show L.list= .pointer none from by have:=h.p.lst;rw[hl]at this;exact this);have h5:=hid hg;have HM:=hid hM;clear h hr h4 hc hE hg hl hM hf hq;go_enter Tryz.func72,Tryz.ntmps72;go_upto_region 1 with fail;generalize w.alloc (.cells #[.int .i64 9,.int .i64 (f:Nat),.int .i64 (s:Nat),.slice A p.length c] 24)=W0 at*
 have h1:=hid (HC.out.below h2.out);have x0:W0.cell? ⟨w.heap.size,0,none⟩=some (.int .i64 9):=HX.out.cell 0;have x1:W0.cell? ⟨w.heap.size,1,none⟩=some (.int .i64 (f:Nat)):=HX.out.cell 1;have c4:W0.cell? ⟨b,4,none⟩=some (.bool M.greeted):=h1.out.blk.cell 4;rw[h5.out]at c4;have f4:=h1.out.blk.frozen 4;go_upto_region 5 with fail;have h0:=h1.out.greets;rw[HM.out]at h0;have h3:=hid h0.1;have h6:=hid ((Fr.below h2.out ow).trans h0.2);have h7:=hid (HX.out.far (p:=⟨b,4,none⟩) (by have:=HC.out.blk.lt;show w.heap.size≠b;omega) (.bool true));clear h0 x0 x1 c4 f4;generalize W0.setCell ⟨b,4,none⟩ (.bool true)=W1 at*
 have x0:W1.cell? ⟨w.heap.size,0,none⟩=some (.int .i64 9):=h7.out.cell 0;have c16:W1.cell? ⟨b,16,none⟩=some L.list:=h3.out.blk.cell 16;rw[HL.out]at c16;go_wp2_with fail;go_quiet (fail);go_wp2_with fail;refine(give_any 1 0 _).mono ?_;rintro e w2 ⟨rfl,hw⟩;subst w2;go_wp2;exact⟨rfl,M,ow,L,rfl,rfl,h3.out.drewN _,h6.out.trans (Fr.drewN _ ow _)⟩
theorem feed_dead (w:World) (ow:Nat->Tg) (b:Nat) (M:Cv) (L:Lay) (v:Value) (h:CN w ow b M L) (hd:M.dead=true):Calls Tryz.prog 10 #[.pointer (some ⟨b,0,none⟩),v] w (FeedPost w ow b (λM'=>M'={M with evs:=[]})):=by
 have hu:=h.unevs;have h0:=hid hu.1;have h2:=hid hu.2;have f7:=h.blk.frozen 7;have c7:w.cell? ⟨b,7,none⟩=some L.ev:=h.blk.cell 7;have HD:=hid hd;clear h hd hu;go_enter Tryz.func10,Tryz.ntmps10;go_upto_region 2 with fail;generalize w.setCell ⟨b,7,none⟩ (.slice none 0 0)=W0 at*
 have d19:W0.cell? ⟨b,19,none⟩=some (.bool M.dead):=h0.out.blk.cell 19;rw[HD.out]at d19;obtain⟨Ae,ce,h1,HH⟩:=h0.out.handed;have h1:Value.slice none 0 0= .slice Ae 0 ce:=h1;injection h1 with e1 e2 e3
 subst e1 e3;have h3:=hid (HH w ow h2.out (λM'=>M'={M with evs:=[]}) rfl);have e7:W0.cell? ⟨b,7,none⟩=some (.slice none 0 0):=h0.out.blk.cell 7;have ef7:=h0.out.blk.frozen 7;clear c7 f7 HH;go_upto_region 4 with fail;go_loopw [23] (λ_ wr=>wr=W0) (λ_ _=>0)
 case atStart=>rfl
 case round=>
  obtain rfl:=hrel;go_wp2;go_ret;exact h3.out
theorem hello1_any (w:World):Calls Tryz.prog 11 #[.int .i64 1] w λe w'=>∃A c,e= .returned (.slice A 9 c)/\Oz w' (λg=>w.heap.size<=g) (.slice A 9 c) (frameB 4 0 0 [])/\Below w.heap.size w w':=by
 have HF:=hid (lawFrame_any none 0 0 4 0 0 w.heap.size [] w ⟨rfl,λh=>absurd h (by omega)⟩ (Nat.le_refl _) (by omega) (by omega) (by omega) (by omega));go_enter Tryz.func11,Tryz.ntmps11;go_wp2_with fail;refine HF.out.mono ?_;rintro e w1 ⟨A1,c1,rfl,h0,h1⟩;have h2:=hid (Oz.of_ow (own:=λg=>w.heap.size<=g) h0 (λg hg=>(h0.lt hg).2));have h3:=hid h1;clear h0 h1;go_wp2;go_ret;exact⟨A1,c1,rfl,h2.out,h3.out⟩
end Go.Proofs.YtkpppjhbmnfmkaaGreatDoor
end

section
set_option maxHeartbeats 8000000
set_option maxRecDepth 100000
namespace Go.Proofs.YtkpppjhbmnfmkaaGreatDoor
open Lib (hid)
open Go.RowKit Go.Own Go.Own.Im Go.Own.Cx Go.Own.Fr
theorem takes_ungreeted (M:Cv) (t f s:Nat) (p:List UInt8) (hg:M.greeted=false) (hf:f<=255) (h0:t≠4\/f&&& 1≠0):TakesP M t f s p (λM'=>M'=M) 1 0:=by
 intro w ow b L A c hE h hr h3 hc;have HX:=hid (Blk.new w 24 #[.int .i64 (t:Nat),.int .i64 (f:Nat),.int .i64 (s:Nat),.slice A p.length c]);have h1:=hid ((Below.refl w.heap.size w).alloc (Nat.le_refl _) (.cells #[.int .i64 (t:Nat),.int .i64 (f:Nat),.int .i64 (s:Nat),.slice A p.length c] 24));have HC:=hid h;have e1:bits .and .i64 (f:Int) 1=((f&&& 1:Nat):Int):=and_nat f 1 (by omega) (by omega);obtain⟨q,hq⟩:∃q,f&&& 1=q:=⟨_,rfl⟩;rw[hq]at e1 h0;have h5:(((t:Int) != 4)=true)\/(((t:Int) != 4)=false/\((q:Int) != 0)=true):=by
  by_cases h4:t=4
  · refine .inr ⟨by simp;omega,?_⟩
    have:=h0.resolve_left (λh=>h h4);simp;omega
  · exact .inl (by simp;omega)
 have h6:=hid hg;clear h hr h3 hc hE hg hf hq h0;rcases h5 with h7|⟨h7,h8⟩
 all_goals
  go_enter Tryz.func72,Tryz.ntmps72;go_upto_region 1 with fail;generalize w.alloc (.cells #[.int .i64 (t:Nat),.int .i64 (f:Nat),.int .i64 (s:Nat),.slice A p.length c] 24)=W0 at*
  have h2:=hid (HC.out.below h1.out);have x0:W0.cell? ⟨w.heap.size,0,none⟩=some (.int .i64 (t:Nat)):=HX.out.cell 0;have x1:W0.cell? ⟨w.heap.size,1,none⟩=some (.int .i64 (f:Nat)):=HX.out.cell 1;have c4:W0.cell? ⟨b,4,none⟩=some (.bool M.greeted):=h2.out.blk.cell 4;rw[h6.out]at c4;go_wp2_with fail;refine(give_any 1 0 _).mono ?_;rintro e w2 ⟨rfl,hw⟩;subst w2;go_wp2;first
   |exact⟨rfl,M,ow,L,rfl,rfl,h2.out,Fr.below h1.out ow⟩
   |exact⟨rfl,M,ow,L,rfl,rfl,h2.out.drewN _,(Fr.below h1.out ow).trans (Fr.drewN _ ow _)⟩
   |exact⟨rfl,M,ow,L,rfl,rfl,h2.out.drew,(Fr.below h1.out ow).drew⟩
theorem takes_wrong (M:Cv) (t f s id:Nat) (fin:Bool) (l0 p:List UInt8) (hg:M.greeted=true) (hl:M.list=some (id,fin,l0)) (hf:f<=255) (h0:t≠9\/s≠id):TakesP M t f s p (λM'=>M'=M) 1 0:=by
 intro w ow b L A c hE h hr hk hc;have hM:({M with greeted:=true}:Cv)=M:=by
  cases M;simp only at hg;subst hg
  rfl
 have HX:=hid (Blk.new w 24 #[.int .i64 (t:Nat),.int .i64 (f:Nat),.int .i64 (s:Nat),.slice A p.length c]);have h5:=hid ((Below.refl w.heap.size w).alloc (Nat.le_refl _) (.cells #[.int .i64 (t:Nat),.int .i64 (f:Nat),.int .i64 (s:Nat),.slice A p.length c] 24));have HC:=hid h;have e1:bits .and .i64 (f:Int) 1=((f&&& 1:Nat):Int):=and_nat f 1 (by omega) (by omega);obtain⟨q,hq⟩:∃q,f&&& 1=q:=⟨_,rfl⟩;rw[hq]at e1;have hm:(((t:Int)==9)=false)\/(((t:Int)==9)=true/\((s:Int)==(id:Int))=false):=by
  by_cases h4:t=9
  · refine .inr ⟨by simp;omega,?_⟩
    have:=h0.resolve_left (λh=>h h4);simp;omega
  · exact .inl (by simp;omega)
 have h2:=h.p.lst;rw[hl]at h2;obtain⟨gp,bv,hb,hd,he,_⟩:=h2;have HL:=hid hb;have hh:=hid he;have hn:=hid hd;have ho:=hid hg;have HM:=hid hM;clear h hr hk hc hE hg hl hM hf hq h0 hb hd he;rcases hm with h9|⟨h9,ht⟩
 all_goals
  go_enter Tryz.func72,Tryz.ntmps72;go_upto_region 1 with fail;generalize w.alloc (.cells #[.int .i64 (t:Nat),.int .i64 (f:Nat),.int .i64 (s:Nat),.slice A p.length c] 24)=W0 at*
  have h6:=hid (HC.out.below h5.out);have x0:W0.cell? ⟨w.heap.size,0,none⟩=some (.int .i64 (t:Nat)):=HX.out.cell 0;have x1:W0.cell? ⟨w.heap.size,1,none⟩=some (.int .i64 (f:Nat)):=HX.out.cell 1;have c4:W0.cell? ⟨b,4,none⟩=some (.bool M.greeted):=h6.out.blk.cell 4;rw[ho.out]at c4;have f4:=h6.out.blk.frozen 4;go_upto_region 5 with fail;have h3:=h6.out.greets;rw[HM.out]at h3;have hi:=hid h3.1;have hs:=hid ((Fr.below h5.out ow).trans h3.2);have hj:=hid (HX.out.far (p:=⟨b,4,none⟩) (by have:=HC.out.blk.lt;show w.heap.size≠b;omega) (.bool true));have h7:gp≠b:=λe=>by have h1:=hn.out;rw[e,HC.out.tb]at h1;cases h1
  have h8:=hid ((hh.out.below h5.out hh.out.lt).far (p:=⟨b,4,none⟩) h7 (.bool true));clear h3 x0 x1 c4 f4;generalize W0.setCell ⟨b,4,none⟩ (.bool true)=W1 at*
  have x0:W1.cell? ⟨w.heap.size,0,none⟩=some (.int .i64 (t:Nat)):=hj.out.cell 0;have x2:W1.cell? ⟨w.heap.size,2,none⟩=some (.int .i64 (s:Nat)):=hj.out.cell 2;have c16:W1.cell? ⟨b,16,none⟩=some L.list:=hi.out.blk.cell 16;rw[HL.out]at c16;have p0:W1.cell? ⟨gp,0,none⟩=some (.int .i64 (id:Nat)):=h8.out.cell 0;go_wp2_with fail;go_quiet (fail);go_wp2_with fail;refine(give_any 1 0 _).mono ?_;rintro e w2 ⟨rfl,hw⟩;subst w2;go_wp2;exact⟨rfl,M,ow,L,rfl,rfl,hi.out.drewN _,hs.out.trans (Fr.drewN _ ow _)⟩
end Go.Proofs.YtkpppjhbmnfmkaaGreatDoor
end
