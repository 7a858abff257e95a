/-
  
  
  
  
  
  
-/
import Derived.Test.YtkpppjhbmnfmkaaGreatDoorJac
import Derived.Test.YtkpppjhbmnfmkaaGreatDoorJan
import Derived.Test.YtkpppjhbmnfmkaaGreatDoorJam
import Derived.Test.YtkpppjhbmnfmkaaGreatDoorJaj
import Derived.Test.YtkpppjhbmnfmkaaGreatDoorJal
import Derived.Test.YtkpppjhbmnfmkaaGreatDoorJas
import Derived.Deep.RegionLaw
set_option linter.unusedSimpArgs false
set_option linter.unusedVariables false
section
namespace Go.Proofs.YtkpppjhbmnfmkaaGreatDoor
open Go.RowKit Go.Own Go.Own.Im Go.Own.Cx
section
variable {w w':World} {ow ow':Nat->Tg} {b:Nat} {M:Cv} {L:Lay}
def CPostS (w:World) (ow:Nat->Tg) (b:Nat) (S:Cv->Prop) (v:Value) (e:Ending) (w':World):Prop:=∃M',S M'/\CPost w ow b M' v e w'
theorem CPostS.ret {v:Value} {e:Ending} {S:Cv->Prop} (h:CPostS w ow b S v e w'):e= .returned v:=by
 obtain⟨_,_,h⟩:=h;exact h.ret
theorem CPostS.trans {w1 w2:World} {ow1:Nat->Tg} {S:Cv->Prop} {v:Value} {e:Ending} (h:Fr w ow w1 ow1) (k:CPostS w1 ow1 b S v e w2):CPostS w ow b S v e w2:=by
 obtain⟨M',hs,k⟩:=k;exact⟨M',hs,k.trans h⟩
theorem CPostS.out {v:Value} {e:Ending} {S:Cv->Prop} (h:CPostS w ow b S v e w'):∃M' ow' L',S M'/\CN w' ow' b M' L'/\Fr w ow w' ow':=by
 obtain⟨M',hs,ow',L',_,hc,hf⟩:=h;exact⟨M',ow',L',hs,hc,hf⟩
def PPostS (w:World) (ow:Nat->Tg) (b:Nat) (S:Cv->Prop) (c s:Nat) (e:Ending) (w':World):Prop:=∃M' ow' L',S M'/\e= .panicked (fltE c s)/\CN w' ow' b M' L'/\Fr w ow w' ow'
theorem PPostS.ret {c s:Nat} {e:Ending} {S:Cv->Prop} (h:PPostS w ow b S c s e w'):e= .panicked (fltE c s):=by
 obtain⟨_,_,_,_,h,_⟩:=h;exact h
theorem PPostS.trans {w1 w2:World} {ow1:Nat->Tg} {S:Cv->Prop} {c s:Nat} {e:Ending} (h:Fr w ow w1 ow1) (k:PPostS w1 ow1 b S c s e w2):PPostS w ow b S c s e w2:=by
 obtain⟨M',ow',L',hs,he,hc,hf⟩:=k;exact⟨M',ow',L',hs,he,hc,h.trans hf⟩
theorem PPostS.out {c s:Nat} {e:Ending} {S:Cv->Prop} (h:PPostS w ow b S c s e w'):∃M' ow' L',S M'/\CN w' ow' b M' L'/\Fr w ow w' ow':=by
 obtain⟨M',ow',L',hs,_,hc,hf⟩:=h;exact⟨M',ow',L',hs,hc,hf⟩
end
end Go.Proofs.YtkpppjhbmnfmkaaGreatDoor
end

section
set_option maxHeartbeats 1000000
namespace Go.Proofs.YtkpppjhbmnfmkaaGreatDoor
open Lib (hid)
open Go.RowKit Go.Own Go.Own.Im Go.Own.Cx Go.Own.Fr
attribute [local go_sem] Oper.semAt_some
theorem CN.outw1 {w:World} {ow:Nat->Tg} {b:Nat} {M:Cv} {L:Lay} (h:CN w ow b M L) (v:Int):CN (w.setCell ⟨L.ob,0,none⟩ (.int .i64 v)) ow b {M with outw:=v} L/\Fr w ow (w.setCell ⟨L.ob,0,none⟩ (.int .i64 v)) ow:=by
 have hsz:(w.setCell ⟨L.ob,0,none⟩ (.int .i64 v)).heap.size=w.heap.size:=by simp[World.setCell]
 have k:Kp (λx=>x= .outw) w ow (w.setCell ⟨L.ob,0,none⟩ (.int .i64 v)) ow:=
  ⟨by omega,λg _ ht _=>⟨Below.heap_setCell w _ _ g (λe=>ht (by rw[e];exact h.p.tu)),rfl⟩⟩
 have h0:=h.blkK k (by decide);have hi:Blk (w.setCell ⟨L.ob,0,none⟩ (.int .i64 v)) L.ob 177 #[.int .i64 v]:=h.p.outw.put 0 (.int .i64 v);refine⟨⟨h0.1,h0.2,⟨h.p.fedK k (by decide),h.p.outK k (by decide),h.p.evK k (by decide) (by decide),(h.p.inwK k (by decide)).1,(h.p.inwK k (by decide)).2,hi,h.p.tu,(h.p.mapK k (by decide)).1,(h.p.mapK k (by decide)).2,λs hs=>h.p.strK k s hs (by intro j;simp),h.p.lstK k (by decide) (by decide),h.p.encK k (by decide),h.p.decK k (by decide)⟩,λg hg=>h.new g (by omega)⟩,?_⟩;exact Fr.grown (grown_setCell (World.grownBy.refl w (some L.ob)) 0 _) λg e=>by injection e with e;subst e;rw[h.p.tu];decide
theorem push_give (w:World) (i:Inf) (sv dv sz:Value):
 Calls Tryz.prog 152 #[.agg (infC i sv dv),sz] w λe w'=>e= .panicked (fltE 1 0)/\Below w.heap.size w w':=by
 have h0:=hid ((Below.refl w.heap.size w).alloc (Nat.le_refl _) (.cells (infC i sv dv) 91));go_enter Tryz.func152,Tryz.ntmps152;go_upto_region 1 with fail;generalize w.alloc (.cells (infC i sv dv) 91)=W0 at*
 go_wp2_with fail;refine(give_any 1 0 _).mono ?_;rintro e w1 ⟨rfl,hw⟩;subst w1;go_wp2;exact⟨rfl,rfl,h0.out⟩
theorem reset_idle (w:World) (ow:Nat->Tg) (b g:Nat) (M:Cv) (L:Lay) (i:Inf) (sv dv sz:Value) (h:CN w ow b M L) (hg:Blk w g 26 #[.pointer (some ⟨b,0,none⟩)]) (hk:knownB M i.stream=false):
 Calls Tryz.prog 153 #[.agg (infC i sv dv),sz,.pointer (some ⟨g,0,none⟩)] w λe w'=>e= .panicked (fltE 1 0)/\Below w.heap.size w w':=by
 have HX:=hid (Blk.new w 91 (infC i sv dv));have h0:=hid ((Below.refl w.heap.size w).alloc (Nat.le_refl _) (.cells (infC i sv dv) 91));have HI:=hid (idle_bad _ ow b M L i.stream (h.below h0.out) hk);have h1:=hid (hg.below h0.out hg.lt);clear h hk hg;go_enter Tryz.func153,Tryz.ntmps153;go_upto_region 1 with fail;generalize w.alloc (.cells (infC i sv dv) 91)=W0 at*
 have x2:W0.cell? ⟨w.heap.size,2,none⟩=some (.int .i64 (i.stream:Nat)):=HX.out.cell 2;have g0:W0.cell? ⟨g,0,none⟩=some (.pointer (some ⟨b,0,none⟩)):=h1.out.cell 0;go_wp2_with fail;with_reducible refine HI.out.mono ?_
 rintro e w1 ⟨rfl,hw⟩;subst w1;go_wp2;exact⟨rfl,rfl,h0.out⟩
theorem win_idle (w:World) (ow:Nat->Tg) (b g:Nat) (M:Cv) (L:Lay) (i:Inf) (sv dv sz:Value) (h:CN w ow b M L) (hg:Blk w g 26 #[.pointer (some ⟨b,0,none⟩)]) (hk:knownB M i.stream=false) (h0:i.stream≠0):
 Calls Tryz.prog 158 #[.agg (infC i sv dv),sz,.pointer (some ⟨g,0,none⟩)] w λe w'=>e= .panicked (fltE 1 0)/\Below w.heap.size w w':=by
 have HX:=hid (Blk.new w 91 (infC i sv dv));have h1:=hid ((Below.refl w.heap.size w).alloc (Nat.le_refl _) (.cells (infC i sv dv) 91));have HI:=hid (idle_bad _ ow b M L i.stream (h.below h1.out) hk);have h2:=hid (hg.below h1.out hg.lt);have k0:((i.stream:Int)=0)=False:=by simp;omega
 have k0':(i.stream=0)=False:=by simp;omega
 have k00:((i.stream:Int)==0)=false:=by simp;omega
 clear h hk hg h0;go_enter Tryz.func158,Tryz.ntmps158;go_upto_region 1 with fail;generalize w.alloc (.cells (infC i sv dv) 91)=W0 at*
 have x2:W0.cell? ⟨w.heap.size,2,none⟩=some (.int .i64 (i.stream:Nat)):=HX.out.cell 2;have g0:W0.cell? ⟨g,0,none⟩=some (.pointer (some ⟨b,0,none⟩)):=h2.out.cell 0;go_wp2_with fail;with_reducible refine HI.out.mono ?_
 rintro e w1 ⟨rfl,hw⟩;subst w1;go_wp2;exact⟨rfl,rfl,h1.out⟩
theorem shift_no (w:World) (g:Nat) (a n:Int) (h:Blk w g 177 #[.int .i64 a]) (he:ErrC w 11) (ha: -2147483647<=a/\a<=2147483647) (hn: -2147483647<=n/\n<=2147483647) (hs:2147483647<a+n):
 Calls Tryz.prog 197 #[.pointer (some ⟨g,0,none⟩),.int .i64 n] w λe w'=>(∃x,e= .returned (ev x))/\w'=w:=by
 obtain⟨x,hx⟩:=he;have c0:w.cell? ⟨g,0,none⟩=some (.int .i64 a):=h.cell 0;have h0:wrap64 (a+n)=a+n:=by unfold wrap64;omega
 have h1:IntKind.i64.wrap (a+n)=a+n:=by rw[IntKind.wrap_i64];omega
 have k0:(n< -2147483647)=False:=by simp;omega
 have k1:((2147483647:Int)<n)=False:=by simp;omega
 have k2:((2147483647:Int)<a+n)=True:=by simp;omega
 clear h ha hn hs;go_enter Tryz.func197,Tryz.ntmps197;go_wp2;go_ret;exact⟨⟨x,rfl⟩,rfl⟩
theorem give_no (w:World) (g:Nat) (a:Int) (n:Nat) (h:Blk w g 177 #[.int .i64 a]) (he:ErrC w 11) (ha: -2147483647<=a/\a<=2147483647) (h0:1<=n) (hs:2147483647<a+n) (hn:n<=2147483647):
 Calls Tryz.prog 159 #[.pointer (some ⟨g,0,none⟩),.int .i64 (n:Nat)] w λe w'=>(∃x,e= .returned (ev x))/\w'=w:=by
 have HS:=hid (shift_no w g a n h he ha (by omega) hs);have k0:((n:Int)<1)=False:=by simp;omega
 clear h ha h0 hs hn he;go_enter Tryz.func159,Tryz.ntmps159;go_wp2_with fail;refine HS.out.mono ?_;rintro e w1 ⟨⟨x,rfl⟩,hw⟩;subst w1;go_wp2;go_ret;exact⟨⟨x,rfl⟩,rfl⟩
end Go.Proofs.YtkpppjhbmnfmkaaGreatDoor
end

section
set_option maxHeartbeats 4000000
set_option maxRecDepth 100000
namespace Go.Proofs.YtkpppjhbmnfmkaaGreatDoor
open Go.RowKit Go.Own Go.Own.Im Go.Own.Cx Go.Own.Fr
attribute [local go_sem] Oper.semAt_some
theorem win_conn (w:World) (ow:Nat->Tg) (b g:Nat) (M:Cv) (L:Lay) (i:Inf) (sv dv sz:Value) (h:CN w ow b M L) (hg:Blk w g 26 #[.pointer (some ⟨b,0,none⟩)]) (h4:ow g= .no) (h0:i.stream=0) (h1:1<=i.inc) (hn:i.inc<=2147483647) (ha: -2147483647<=M.outw/\M.outw+i.inc<=2147483647):
 Calls Tryz.prog 158 #[.agg (infC i sv dv),sz,.pointer (some ⟨g,0,none⟩)] w (CPost w ow b {M with outw:=M.outw+i.inc} (.tuple #[])):=by
 have HX:=Lib.hid (Blk.new w 91 (infC i sv dv));have h5:=Lib.hid ((Below.refl w.heap.size w).alloc (Nat.le_refl _) (.cells (infC i sv dv) 91));have h2:=Lib.hid (h.below h5.out);have hb:=Lib.hid (hg.below h5.out hg.lt);have hc:=Lib.hid (λW (hW:Blk W L.ob 177 #[.int .i64 M.outw])=>give_yes W L.ob M.outw i.inc hW (by omega) h1 ha.2 hn);have HS:=Lib.hid h0;have HT:=Lib.hid (show ow w.heap.size= .no/\ow g= .no/\g≠L.ob/\w.heap.size≠L.ob from⟨h.new _ (Nat.le_refl _),h4,(by intro e;rw[e,h.p.tu]at h4;cases h4),(by intro e;have h1:=h.new w.heap.size (Nat.le_refl _);rw[e,h.p.tu]at h1;cases h1)⟩);clear h hg h4 h0 h1 hn ha;go_enter Tryz.func158,Tryz.ntmps158;go_upto_region 1 with fail;generalize w.alloc (.cells (infC i sv dv) 91)=W0 at*
 have x2:W0.cell? ⟨w.heap.size,2,none⟩=some (.int .i64 (i.stream:Nat)):=HX.out.cell 2;rw[HS.out]at x2;have x14:W0.cell? ⟨w.heap.size,14,none⟩=some (.int .i64 (i.inc:Nat)):=HX.out.cell 14;have g0:W0.cell? ⟨g,0,none⟩=some (.pointer (some ⟨b,0,none⟩)):=hb.out.cell 0;have c8:W0.cell? ⟨b,9,none⟩=some (.pointer (some ⟨L.ob,0,none⟩)):=h2.out.blk.cell 9;have hf:=Lib.hid (show W0.cell? ⟨g,0,none⟩=some (.pointer (some ⟨b,0,none⟩))/\W0.cell? ⟨b,9,none⟩=some (.pointer (some ⟨L.ob,0,none⟩))/\W0.cell? ⟨w.heap.size,14,none⟩=some (.int .i64 (i.inc:Nat))from⟨g0,c8,x14⟩);have h7:=Lib.hid (show W0.drew.cell? ⟨g,0,none⟩=some (.pointer (some ⟨b,0,none⟩))/\W0.drew.cell? ⟨b,9,none⟩=some (.pointer (some ⟨L.ob,0,none⟩))/\W0.drew.cell? ⟨w.heap.size,14,none⟩=some (.int .i64 (i.inc:Nat))from⟨g0,c8,x14⟩);have hh:=Lib.hid (h2.out.outw1 (M.outw+(i.inc:Int)));have kb:=h2.out.drew.outw1 (M.outw+(i.inc:Int));have hi:=Lib.hid (show _/\_ from⟨kb.1,(Fr.drewN W0 ow 1).trans kb.2⟩);have h8:=Lib.hid (hc.out W0 h2.out.p.outw);have h9:=Lib.hid (hc.out W0.drew h2.out.drew.p.outw);have hd:=Lib.hid (show ow w.heap.size= .no/\ow g= .no/\g≠L.ob/\w.heap.size≠L.ob from HT.out);go_upto_region 2 with fail;clear kb x2;go_region_held3 (λW'=>W'.cell? ⟨g,0,none⟩=some (.pointer (some ⟨b,0,none⟩))/\W'.cell? ⟨b,9,none⟩=some (.pointer (some ⟨L.ob,0,none⟩))/\W'.cell? ⟨w.heap.size,14,none⟩=some (.int .i64 (i.inc:Nat))) (first|with_reducible exact hf.out|with_reducible exact h7.out|with_reducible exact hj.out) (first
  |(go_at_call 159
    first|with_reducible refine Calls.mono h8.out ?_|with_reducible refine Calls.mono h9.out ?_
    rintro e w3 ⟨rfl,h6⟩;have h3:CN w3 ow b {M with outw:=M.outw+(i.inc:Int)} L/\Fr W0 ow w3 ow:=by first|exact h6▸hh.out|exact h6▸hi.out
    have he:=Lib.hid h3;have hj:=Lib.hid (show w3.cell? ⟨g,0,none⟩=some (.pointer (some ⟨b,0,none⟩))/\w3.cell? ⟨b,9,none⟩=some (.pointer (some ⟨L.ob,0,none⟩))/\w3.cell? ⟨w.heap.size,14,none⟩=some (.int .i64 (i.inc:Nat))from⟨(h3.2.blk hb.out hd.out.2.1).cell 0,h3.1.blk.cell 9,(h3.2.blk HX.out hd.out.1).cell 14⟩);clear h6 h3)
  |fail)
 all_goals
  go_wp2;go_end0;exact⟨ow,L,rfl,he.out.1,(Fr.below h5.out ow).trans he.out.2⟩
theorem win_over (w:World) (ow:Nat->Tg) (b g:Nat) (M:Cv) (L:Lay) (i:Inf) (sv dv sz:Value) (h:CN w ow b M L) (hg:Blk w g 26 #[.pointer (some ⟨b,0,none⟩)]) (he:ErrC w 11) (hsz:20<=w.heap.size) (h0:i.stream=0) (h1:1<=i.inc) (hn:i.inc<=2147483647) (ha: -2147483647<=M.outw/\M.outw<=2147483647) (ho:2147483647<M.outw+i.inc):
 Calls Tryz.prog 158 #[.agg (infC i sv dv),sz,.pointer (some ⟨g,0,none⟩)] w λe w'=>e= .panicked (fltE 3 0)/\Below w.heap.size w w':=by
 have HX:=Lib.hid (Blk.new w 91 (infC i sv dv));have h2:=Lib.hid ((Below.refl w.heap.size w).alloc (Nat.le_refl _) (.cells (infC i sv dv) 91));have h3:=Lib.hid (h.below h2.out);have h8:=Lib.hid (hg.below h2.out hg.lt);have HE:=Lib.hid (show ErrC _ 11 from Exists.imp (λ_ hx=>(h2.out.cell (p:=⟨11,0,none⟩) (Nat.lt_of_lt_of_le (by decide) hsz)).trans hx) he);have h7:=Lib.hid (λW (hW:Blk W L.ob 177 #[.int .i64 M.outw]) (hE:ErrC W 11)=>give_no W L.ob M.outw i.inc hW hE ha h1 ho hn);have HS:=Lib.hid h0;clear h hg h0 h1 hn ha he hsz ho;go_enter Tryz.func158,Tryz.ntmps158;go_upto_region 1 with fail;generalize w.alloc (.cells (infC i sv dv) 91)=W0 at*
 have x2:W0.cell? ⟨w.heap.size,2,none⟩=some (.int .i64 (i.stream:Nat)):=HX.out.cell 2;rw[HS.out]at x2;have x14:W0.cell? ⟨w.heap.size,14,none⟩=some (.int .i64 (i.inc:Nat)):=HX.out.cell 14;have g0:W0.cell? ⟨g,0,none⟩=some (.pointer (some ⟨b,0,none⟩)):=h8.out.cell 0;have c8:W0.cell? ⟨b,9,none⟩=some (.pointer (some ⟨L.ob,0,none⟩)):=h3.out.blk.cell 9;go_upto_region 2 with fail;have h4:=Lib.hid (h7.out W0 h3.out.p.outw HE.out);have h5:=Lib.hid (h7.out W0.drew h3.out.drew.p.outw HE.out);have h9:=Lib.hid (show W0.cell? ⟨g,0,none⟩=some (.pointer (some ⟨b,0,none⟩))/\W0.cell? ⟨b,9,none⟩=some (.pointer (some ⟨L.ob,0,none⟩))/\W0.cell? ⟨w.heap.size,14,none⟩=some (.int .i64 (i.inc:Nat))from⟨g0,c8,x14⟩);have h6:=Lib.hid (show W0.drew.cell? ⟨g,0,none⟩=some (.pointer (some ⟨b,0,none⟩))/\W0.drew.cell? ⟨b,9,none⟩=some (.pointer (some ⟨L.ob,0,none⟩))/\W0.drew.cell? ⟨w.heap.size,14,none⟩=some (.int .i64 (i.inc:Nat))from⟨g0,c8,x14⟩);clear x2;go_region_held3 (λW'=>W'.cell? ⟨g,0,none⟩=some (.pointer (some ⟨b,0,none⟩))/\W'.cell? ⟨b,9,none⟩=some (.pointer (some ⟨L.ob,0,none⟩))/\W'.cell? ⟨w.heap.size,14,none⟩=some (.int .i64 (i.inc:Nat))) (first|with_reducible exact h9.out|with_reducible exact h6.out) (first
  |(go_at_call 159
    first|with_reducible refine Calls.mono h4.out ?_|with_reducible refine Calls.mono h5.out ?_
    rintro e w3 ⟨⟨x,rfl⟩,hb⟩;subst w3;simp only[ev])
  |fail)
 all_goals
  go_wp2_with fail;refine(give_any 3 0 _).mono ?_;rintro e w4 ⟨rfl,hw⟩;subst w4;go_wp2;exact⟨rfl,rfl,by first|exact h2.out|exact below_drew h2.out⟩
theorem heads_even (w:World) (ow:Nat->Tg) (b g:Nat) (M:Cv) (L:Lay) (i:Inf) (sv dv sz:Value) (h:CN w ow b M L) (hg:Blk w g 26 #[.pointer (some ⟨b,0,none⟩)]) (h0:M.side=2) (hid:i.stream % 2=0):
 Calls Tryz.prog 149 #[.agg (infC i sv dv),sz,.pointer (some ⟨g,0,none⟩)] w λe w'=>e= .panicked (fltE 1 0)/\Below w.heap.size w w':=by
 have HX:=Lib.hid (Blk.new w 91 (infC i sv dv));have h1:=Lib.hid ((Below.refl w.heap.size w).alloc (Nat.le_refl _) (.cells (infC i sv dv) 91));have h2:=Lib.hid (h.below h1.out);have h3:=Lib.hid (hg.below h1.out hg.lt);have hm:((i.stream:Int).tmod 2)=0:=by
  have:((i.stream:Int).tmod 2)=((i.stream % 2:Nat):Int):=rfl;rw[this,hid];rfl
 have h4:((i.stream:Int) % 2)=0:=by
  have:((i.stream:Int) % 2)=((i.stream % 2:Nat):Int):=rfl;rw[this,hid];rfl
 have HS:=Lib.hid h0;clear h hg h0 hid;go_enter Tryz.func149,Tryz.ntmps149;go_upto_region 1 with fail;generalize w.alloc (.cells (infC i sv dv) 91)=W0 at*
 have c0:W0.cell? ⟨b,0,none⟩=some (.int .i64 (M.side:Nat)):=h2.out.blk.cell 0;rw[HS.out]at c0;have g0:W0.cell? ⟨g,0,none⟩=some (.pointer (some ⟨b,0,none⟩)):=h3.out.cell 0;have x2:W0.cell? ⟨w.heap.size,2,none⟩=some (.int .i64 (i.stream:Nat)):=HX.out.cell 2;go_wp2_with fail;refine(give_any 1 0 _).mono ?_;rintro e w1 ⟨rfl,hw⟩;subst w1;go_wp2;exact⟨rfl,rfl,h1.out⟩
theorem heads_unknown (w:World) (ow:Nat->Tg) (b g:Nat) (M:Cv) (L:Lay) (i:Inf) (sv dv sz:Value) (h:CN w ow b M L) (hg:Blk w g 26 #[.pointer (some ⟨b,0,none⟩)]) (h0:M.side=1) (hk:knownB M i.stream=false):
 Calls Tryz.prog 149 #[.agg (infC i sv dv),sz,.pointer (some ⟨g,0,none⟩)] w λe w'=>e= .panicked (fltE 1 0)/\Below w.heap.size w w':=by
 have HX:=Lib.hid (Blk.new w 91 (infC i sv dv));have h1:=Lib.hid ((Below.refl w.heap.size w).alloc (Nat.le_refl _) (.cells (infC i sv dv) 91));have h2:=Lib.hid (h.below h1.out);have h3:=Lib.hid (hg.below h1.out hg.lt);have HK:=known_any _ ow b M L i.stream h2.out;rw[show decide (i.stream % 2=1/\i.stream<=M.last)=false from hk]at HK;have HK:=Lib.hid HK;have HS:=Lib.hid h0;clear h hg h0 hk;go_enter Tryz.func149,Tryz.ntmps149;go_upto_region 1 with fail;generalize w.alloc (.cells (infC i sv dv) 91)=W0 at*
 have c0:W0.cell? ⟨b,0,none⟩=some (.int .i64 (M.side:Nat)):=h2.out.blk.cell 0;rw[HS.out]at c0;have g0:W0.cell? ⟨g,0,none⟩=some (.pointer (some ⟨b,0,none⟩)):=h3.out.cell 0;have x2:W0.cell? ⟨w.heap.size,2,none⟩=some (.int .i64 (i.stream:Nat)):=HX.out.cell 2;go_wp2_with (first
  |(go_at_call 111
    with_reducible refine Calls.mono HK.out ?_
    rintro e w1 ⟨rfl,hw⟩;subst w1)
  |fail)
 refine(give_any 1 0 _).mono ?_;rintro e w1 ⟨rfl,hw⟩;subst w1;go_wp2;exact⟨rfl,rfl,h1.out⟩
theorem ping_no (w:World) (ow:Nat->Tg) (b g:Nat) (M:Cv) (L:Lay) (s:Nat) (l:List UInt8) (sv:Value) (A:Option Addr) (c:Nat) (sz:Value) (h:CN w ow b M L) (hg:Blk w g 26 #[.pointer (some ⟨b,0,none⟩)]) (hr:Rd w w.heap.size A 8 l) (ho:M.out.length<=1000000000):
 Calls Tryz.prog 156 #[.agg (infC {typ:=6,stream:=s,data:=l} sv (.slice A 8 c)),sz,.pointer (some ⟨g,0,none⟩)] w (CPost w ow b {M with out:=M.out++frameB 6 1 0 l} (.tuple #[])):=by
 have HX:=Lib.hid (Blk.new w 91 (infC {typ:=6,stream:=s,data:=l} sv (.slice A 8 c)));have h0:=Lib.hid ((Below.refl w.heap.size w).alloc (Nat.le_refl _) (.cells (infC {typ:=6,stream:=s,data:=l} sv (.slice A 8 c)) 91));have h1:=Lib.hid (h.below h0.out);have h2:=Lib.hid (hg.below h0.out hg.lt);have HP:=put_any _ ow b M L _ _ h1.out rfl (bld_ping _ true A c _ l (hr.below h0.out) h0.out.size) ho;rw[show infC {typ:=6,ack:=true,data:=l} (.slice none 0 0) (.slice A 8 c)= #[.int .i64 6,.int .i64 0,.int .i64 0,.bool false,.bool false,.bool true,.bool false,.bool false,.bool false,.int .i64 0,.int .i64 0,.int .i64 0,.int .i64 0,.int .i64 0,.int .i64 0,.int .i64 0,.slice none 0 0,.slice A 8 c]from rfl,show flg {typ:=6,ack:=true,data:=l}=1 from by simp[flg],show pay {typ:=6,ack:=true,data:=l}=l from rfl]at HP;have HP:=Lib.hid HP;clear h hg hr ho;go_enter Tryz.func156,Tryz.ntmps156;go_upto_region 1 with fail;generalize w.alloc (.cells (infC {typ:=6,stream:=s,data:=l} sv (.slice A 8 c)) 91)=W0 at*
 have g0:W0.cell? ⟨g,0,none⟩=some (.pointer (some ⟨b,0,none⟩)):=h2.out.cell 0;have x5:W0.cell? ⟨w.heap.size,5,none⟩=some (.bool false):=HX.out.cell 5;have x17:W0.cell? ⟨w.heap.size,17,none⟩=some (.slice A 8 c):=HX.out.cell 17;go_wp2_with fail;refine HP.out.mono ?_;intro e w1 hp;obtain rfl:=hp.ret;have HQ:=Lib.hid hp;clear hp;go_wp2;go_end0;exact HQ.out.trans (Fr.below h0.out ow)
theorem evd_tag5 {w0 W:World} {ow0 OW:Nat->Tg} {b:Nat} {M:Cv} {L:Lay} {B n c:Nat} {A:Option Addr} {l:List UInt8} (hF:Fr w0 ow0 W OW) (h:CN W OW b M L) (hr:Rd W B A n l) (hB:B<=W.heap.size) (hc:n<=c) (h2:0<n->∀ad,A=some ad->OW ad.block= .no/\w0.heap.size<=ad.block/\UF W ad.block):
 ∃OW',CN W OW' b M L/\Fr w0 ow0 W OW'/\EvOk W OW' {kind:=5,ba:=A,bc:=c,by_:=l}/\∀g,B<=g->OW' g=OW g:=by
 have h1:l.length=n:=hr.1;rcases Nat.eq_zero_or_pos n with h0|h0
 · refine⟨OW,h,hF,⟨⟨Nat.le_refl _,Cm.RS.nil,λh=>absurd h (Nat.lt_irrefl _)⟩,⟨by show l.length<=c;omega,by show Rd W W.heap.size A l.length l;rw[h1];exact hr.more hB,λhp=>by have hp:0<l.length:=hp;omega⟩⟩,λ_ _=>rfl⟩
 · obtain⟨ad,rfl,h6,_⟩:=hr.2 h0
   obtain⟨h3,h7,h4⟩:=h2 h0 ad rfl;refine⟨upd OW ad.block .evd,h.tag h3 (by omega) .evd,⟨hF.os,hF.tape,hF.output,hF.size,hF.keep,λg h5 ho=>by rw[upd_other _ _ (by omega)];exact hF.no g h5 ho⟩,⟨⟨Nat.le_refl _,Cm.RS.nil,λh=>absurd h (Nat.lt_irrefl _)⟩,⟨by show l.length<=c;omega,by show Rd W W.heap.size (some ad) l.length l;rw[h1];exact hr.more hB,λ_ ad2 e=>by
    have e:some ad=some ad2:=e;injection e with e
    rw[<-e];exact⟨upd_same _ _ _,h4⟩⟩⟩,λg hg=>upd_other _ _ (by omega)⟩
theorem ping_yes (w0 w:World) (ow0 ow:Nat->Tg) (b g:Nat) (M:Cv) (L:Lay) (s:Nat) (l:List UInt8) (sv:Value) (A:Option Addr) (c:Nat) (sz:Value) (hf:Fr w0 ow0 w ow) (h:CN w ow b M L) (hg:Blk w g 26 #[.pointer (some ⟨b,0,none⟩)]) (hr:Rd w w.heap.size A 8 l) (hc:8<=c) (h1:∀ad,A=some ad->ow ad.block= .no/\w0.heap.size<=ad.block/\UF w ad.block) (hn:M.evs.length<=900000):
 Calls Tryz.prog 156 #[.agg (infC {typ:=6,stream:=s,ack:=true,data:=l} sv (.slice A 8 c)),sz,.pointer (some ⟨g,0,none⟩)] w (CPostS w0 ow0 b (λM'=>∃A c,M'={M with evs:=M.evs++[{kind:=5,ba:=A,bc:=c,by_:=l}]}) (.tuple #[])):=by
 have HX:=Lib.hid (Blk.new w 91 (infC {typ:=6,stream:=s,ack:=true,data:=l} sv (.slice A 8 c)));have h0:=Lib.hid ((Below.refl w.heap.size w).alloc (Nat.le_refl _) (.cells (infC {typ:=6,stream:=s,ack:=true,data:=l} sv (.slice A 8 c)) 91));have h5:=Lib.hid (hg.below h0.out hg.lt);have hl:=hr.1;obtain⟨OW,h2,h3,h4,_⟩:=evd_tag5 (hf.trans (Fr.below h0.out ow)) (h.below h0.out) (hr.below h0.out) h0.out.size hc (λ_ ad e=>⟨(h1 ad e).1,(h1 ad e).2.1,(h1 ad e).2.2.same (h0.out.block _ (by obtain⟨ad2,e2,h6,_⟩:=hr.2 (by decide);rw[e]at e2;injection e2 with e2;rw[e2];exact h6))⟩);have HT:=tell_any _ OW b M L {kind:=5,ba:=A,bc:=c,by_:=l} h2 h4 hn;rw[show evC {kind:=5,ba:=A,bc:=c,by_:=l}= #[.int .i64 5,.int .i64 0,.int .i64 0,.int .i64 0,.bool false,.slice none 0 0,.slice A l.length c]from rfl,hl]at HT;have HT:=Lib.hid HT;have h7:=Lib.hid h3;clear h hg hr hn h1 hc hl hf h2 h3 h4;go_enter Tryz.func156,Tryz.ntmps156;go_upto_region 1 with fail;generalize w.alloc (.cells (infC {typ:=6,stream:=s,ack:=true,data:=l} sv (.slice A 8 c)) 91)=W0 at*
 have g0:W0.cell? ⟨g,0,none⟩=some (.pointer (some ⟨b,0,none⟩)):=h5.out.cell 0;have x5:W0.cell? ⟨w.heap.size,5,none⟩=some (.bool true):=HX.out.cell 5;have x17:W0.cell? ⟨w.heap.size,17,none⟩=some (.slice A 8 c):=HX.out.cell 17;go_wp2_with fail;refine HT.out.mono ?_;intro e w1 hp;obtain rfl:=hp.ret;have HQ:=Lib.hid hp;clear hp;go_wp2;go_end0;exact⟨_,⟨A,c,rfl⟩,HQ.out.trans h7.out⟩
end Go.Proofs.YtkpppjhbmnfmkaaGreatDoor
end

section
set_option maxHeartbeats 4000000
set_option maxRecDepth 100000
namespace Go.Proofs.YtkpppjhbmnfmkaaGreatDoor
open Lib (hid)
open Go.RowKit Go.Own Go.Own.Im Go.Own.Cx Go.Own.Fr
attribute [local go_sem] Oper.semAt_some
def _root_.Go.Own.Cx.HpM.sized (H:HpM) (n:Nat):HpM:={H with et:=Hk.TM.resize H.et n,asked:=true,least:=if H.asked=false\/n<H.least then n else H.least}
theorem CN.encs {w w':World} {ow:Nat->Tg} {b:Nat} {M:Cv} {L:Lay} (h:CN w ow b M L) {X:Nat->Prop} (hb:Bar X w.heap.size w w') (hX:∀j,X j->ow j= .enc) {H':HpM} (he:H'.dt=M.hp.dt/\H'.dgone=M.hp.dgone) (hd:EncS w' (λg=>ow g= .enc) L.enc H'):
 CN w' ow b {M with hp:=H'} L/\Fr w ow w' ow:=by
 have k:Kp (λx=>x= .enc) w ow w' ow:=⟨hb.size,λg hn ht h0=>⟨hb.block g h0 λhx=>ht (hX g hx),rfl⟩⟩;have h5:=h.blkK k (by decide);have h4:DecS w' (λg=>ow g= .dec) L.dec H':=by
  obtain⟨tb,h1,h2,h3⟩:=h.p.decK k (by decide);exact⟨tb,by rw[he.2];exact h1,h2,by rw[he.1];exact h3⟩
 exact⟨⟨h5.1,h5.2,⟨h.p.fedK k (by decide),h.p.outK k (by decide),h.p.evK k (by decide) (by decide),(h.p.inwK k (by decide)).1,(h.p.inwK k (by decide)).2,(h.p.outwK k (by decide)).1,(h.p.outwK k (by decide)).2,(h.p.mapK k (by decide)).1,(h.p.mapK k (by decide)).2,
  λs hs=>h.p.strK k s hs (by intro j;simp),h.p.lstK k (by decide) (by decide),hd,h4⟩,λg hg=>h.new g (Nat.le_trans hb.size hg)⟩,
  ⟨hb.os,hb.tape,hb.output,hb.size,λg h0 h6=>hb.block g h0 λhx=>by have:=hX g hx;rw[h6]at this;exact Tg.noConfusion this,λ_ _ h=>h⟩⟩
theorem enc_resize (w:World) (ow:Nat->Tg) (b:Nat) (M:Cv) (L:Lay) (n:Nat) (h:CN w ow b M L) (hn:n<=4096):
 Calls Tryz.prog 198 #[.pointer (some ⟨L.enc,0,none⟩),.int .i64 (n:Nat)] w λe w'=>e= .returned .nilIface/\CN w' ow b {M with hp:=M.hp.sized n} L/\Fr w ow w' ow:=by
 obtain⟨tb,h7,hh,hi,hl⟩:=h.p.enc;obtain⟨r,ht,ho,hs,hz,hm⟩:=hl.ring;have hne:L.enc≠tb/\L.enc≠r:=by
  obtain⟨old,cs,h1,h2,_⟩:=ht;exact⟨blk_ne h7 h1 (by decide),blk_ne h7 h2 (by decide)⟩
 have HT:=hid (tresize_any w tb r M.hp.et.E M.hp.et.most n ht hn);have HC:=hid h;have HH:=hid (show _/\_/\_/\_/\_/\_/\_/\_ from⟨hne.1,hne.2,hh,hi,ho,hs,hz,hn⟩);have hu:=hid h7;have c0:w.cell? ⟨L.enc,0,none⟩=some (.pointer (some ⟨tb,0,none⟩)):=h7.cell 0;have hw:∃q,M.hp.least=q:=⟨_,rfl⟩;obtain⟨q,hq⟩:=hw;clear h hn h7 hh hi hl ht ho hs hz hm hne;have fin:∀(w1 w2:World) (k:Nat),TabR w1 tb r (Hk.TM.resize ⟨M.hp.et.E,M.hp.et.most⟩ n).E n->Bar (λj=>j=tb\/j=r) w.heap.size w w1->Blk w2 L.enc 135 #[.pointer (some ⟨tb,0,none⟩),.int .i64 (k:Nat),.bool true]->w1.grownBy w2 (some L.enc)->(M.hp.sized n).least=k->
  CN w2 ow b {M with hp:=M.hp.sized n} L/\Fr w ow w2 ow:=λw1 w2 k h8 h0 hA hg hk=>by
  have h9:=h8.lt;have h1:=HH.out.1;have h2:=HH.out.2.1;have he:Bar (λj=>j=L.enc\/j=tb\/j=r) w.heap.size w w2:=⟨hg.os.trans h0.os,hg.tape.trans h0.tape,hg.output.trans h0.output,Nat.le_trans h0.size hg.size,λj hj hx=>
   (hg.block j (Nat.lt_of_lt_of_le hj h0.size) (λe=>by injection e with e;exact hx (.inl e))).trans (h0.block j hj λhy=>hx (.inr hy))⟩
  refine HC.out.encs he (λj hj=>?_) ⟨rfl,rfl⟩ ?_
  · rcases hj with rfl|rfl|rfl
    · exact HH.out.2.2.1
    · exact HH.out.2.2.2.2.1
    · exact HH.out.2.2.2.2.2.1
  · refine⟨tb,hk▸hA,HH.out.2.2.1,?_,?_⟩
    · have h3:=HH.out.2.2.2.2.2.2.2
      have h4:=HH.out.2.2.2.1;show(if M.hp.asked=false\/n<M.hp.least then n else M.hp.least)<=4096
      split<;>omega
    · refine(h8.keep (hg.block tb h9.1 (λe=>by injection e with e;exact h1 e.symm)) (hg.block r h9.2 (λe=>by injection e with e;exact h2 e.symm))).tabS HH.out.2.2.2.2.1 HH.out.2.2.2.2.2.1 ?_ HH.out.2.2.2.2.2.2.2
      exact Hk.shrink_le _ _
 have h6:=hid fin;clear fin;go_enter Tryz.func198,Tryz.ntmps198;go_wp2_with fail;refine HT.out.mono ?_;rintro e w1 ⟨rfl,h8,h0⟩;have h5:=hid (show Blk w1 L.enc 135 #[.pointer (some ⟨tb,0,none⟩),.int .i64 (M.hp.least:Nat),.bool M.hp.asked]from h0.blk hu.out hu.out.lt (by rintro(e|e);exact HH.out.1 e;exact HH.out.2.1 e));have hc:=hid h8;have hd:=hid h0;have c1:w1.cell? ⟨L.enc,1,none⟩=some (.int .i64 (M.hp.least:Nat)):=h5.out.cell 1;have c2:w1.cell? ⟨L.enc,2,none⟩=some (.bool M.hp.asked):=h5.out.cell 2;have f1:=h5.out.frozen 1;have f2:=h5.out.frozen 2;rw[hq]at c1;have HQ:=hid hq;clear hq c0 h8 h0;cases ha:M.hp.asked
 · rw[ha]at c2
   have HA:=hid ha;clear ha;go_wp2;go_ret;refine⟨rfl,h6.out w1 _ n hc.out hd.out ?_ ?_ ?_⟩
   · exact(h5.out.put 1 (.int .i64 (n:Nat))).put 2 (.bool true)
   · exact grown_setCell (grown_setCell (World.grownBy.refl w1 (some L.enc)) 1 _) 2 _
   · show(if M.hp.asked=false\/n<M.hp.least then n else M.hp.least)=n
     rw[HA.out,if_pos (.inl rfl)]
 · rw[ha]at c2
   have HA:=hid ha;clear ha;by_cases h9:n<q
   · have hf:((n:Int)<(q:Int))=True:=by simp;omega
     go_wp2;go_ret;refine⟨rfl,h6.out w1 _ n hc.out hd.out ?_ ?_ ?_⟩
     · exact(h5.out.put 1 (.int .i64 (n:Nat))).put 2 (.bool true)
     · exact grown_setCell (grown_setCell (World.grownBy.refl w1 (some L.enc)) 1 _) 2 _
     · show(if M.hp.asked=false\/n<M.hp.least then n else M.hp.least)=n
       rw[HQ.out,if_pos (.inr h9)]
   · have hf:((n:Int)<(q:Int))=False:=by simp;omega
     go_wp2;go_ret;refine⟨rfl,h6.out w1 _ q hc.out hd.out ?_ ?_ ?_⟩
     · have hb:=h5.out.put 2 (.bool true)
       rw[HQ.out]at hb;exact hb
     · exact grown_setCell (World.grownBy.refl w1 (some L.enc)) 2 _
     · show(if M.hp.asked=false\/n<M.hp.least then n else M.hp.least)=q
       rw[HQ.out,HA.out,if_neg (by rintro(e|e);cases e;exact h9 e)]
theorem CN.gone1 {w:World} {ow:Nat->Tg} {b:Nat} {M:Cv} {L:Lay} (h:CN w ow b M L):CN (w.setCell ⟨b,18,none⟩ (.bool true)) ow b {M with gone:=true} L/\Fr w ow (w.setCell ⟨b,18,none⟩ (.bool true)) ow:=h.cell 18 _ rfl h.p
theorem away_none (w:World) (ow:Nat->Tg) (b g:Nat) (M:Cv) (L:Lay) (i:Inf) (sv dv sz:Value) (h:CN w ow b M L) (hg:Blk w g 26 #[.pointer (some ⟨b,0,none⟩)]) (hb:ow g= .no) (hs:M.strs=[]) (hn:M.evs.length<=900000):
 Calls Tryz.prog 157 #[.agg (infC i sv dv),sz,.pointer (some ⟨g,0,none⟩)] w (CPost w ow b {M with evs:=M.evs++[{kind:=6,last:=i.last,code:=i.code}],gone:=true} (.tuple #[])):=by
 have HX:=hid (Blk.new w 91 (infC i sv dv));have h6:=hid ((Below.refl w.heap.size w).alloc (Nat.le_refl _) (.cells (infC i sv dv) 91));have hf:=hid (h.below h6.out);have h7:=hid (hg.below h6.out hg.lt);have hc:=hid hb;have HS:=hid hs;have HT:=tell_any _ ow b M L {kind:=6,last:=i.last,code:=i.code} hf.out (evOk_plain _ ow 6 0 i.code i.last false) hn;rw[evC_plain]at HT;have HT:=hid HT;clear h hg hb hs hn;go_enter Tryz.func157,Tryz.ntmps157;go_upto_region 1 with fail;generalize w.alloc (.cells (infC i sv dv) 91)=W0 at*
 have g0:W0.cell? ⟨g,0,none⟩=some (.pointer (some ⟨b,0,none⟩)):=h7.out.cell 0;have x13:W0.cell? ⟨w.heap.size,13,none⟩=some (.int .i64 (i.last:Nat)):=HX.out.cell 13;have x12:W0.cell? ⟨w.heap.size,12,none⟩=some (.int .i64 (i.code:Nat)):=HX.out.cell 12;go_wp2_with fail;refine HT.out.mono ?_;intro e w1 hp;obtain rfl:=hp.ret;obtain⟨ow1,L1,_,h3,h4⟩:=hp;have hh:=hid h3;have hi:=hid ((Fr.below h6.out ow).trans h4);have hd:=hid (h4.blk h7.out hc.out);have h9:=hid (show ow1 g= .no from h4.no g h7.out.lt hc.out);have g1:w1.cell? ⟨g,0,none⟩=some (.pointer (some ⟨b,0,none⟩)):=hd.out.cell 0;have c18:w1.cell? ⟨b,18,none⟩=some (.bool M.gone):=h3.blk.cell 18;have f18:=h3.blk.frozen 18;clear g0 x13 x12 h3 h4;go_upto_region 3 with fail;have h5:=hh.out.gone1;have he:=hid h5.1;have hj:=hid (hi.out.trans h5.2);have hk:=hid (h5.2.blk hd.out h9.out);clear h5 g1 c18 f18;generalize w1.setCell ⟨b,18,none⟩ (.bool true)=W2 at*
 have g2:W2.cell? ⟨g,0,none⟩=some (.pointer (some ⟨b,0,none⟩)):=hk.out.cell 0;have h0:=ids_any W2 ow1 b _ L1 he.out (by show(M.strs.map (·.id)).Pairwise _;rw[HS.out];exact .nil) (by show M.strs.length<=_;rw[HS.out];decide);rw[show({M with evs:=M.evs++[{kind:=6,last:=i.last,code:=i.code}],gone:=true}:Cv).strs=[]from HS.out]at h0;have HI:=hid h0;clear h0;go_wp2_with fail;refine HI.out.mono ?_;rintro e w3 ⟨v,rfl,h2,h8⟩;have hv:∃A c,v= .slice A 0 c:=by
  rcases h2.2 with⟨rfl,_⟩|⟨g,cap,cur,rfl,_,_,h1,_⟩
  · exact⟨none,0,rfl⟩
  · exact⟨_,_,rfl⟩
 obtain⟨A3,c3,rfl⟩:=hv;have hl:=hid (he.out.below h8);have hm:=hid (hj.out.trans (Fr.below h8 ow1));clear h2 h8 g2;go_upto_region 4 with fail;go_loopw [20] (λiv wr=>Hid (iv= .int .i64 0/\wr=w3)) (λ_ _=>0)
 case atStart=>exact hid ⟨rfl,rfl⟩
 case round=>
  obtain⟨rfl,hw⟩:=hrel.out;subst wr;go_wp2;go_end0;exact⟨ow1,L1,rfl,hl.out,hm.out⟩
end Go.Proofs.YtkpppjhbmnfmkaaGreatDoor
end

section
set_option maxHeartbeats 4000000
set_option maxRecDepth 100000
namespace Go.Proofs.YtkpppjhbmnfmkaaGreatDoor
open Lib (hid)
open Go.RowKit Go.Own Go.Own.Im Go.Own.Cx Go.Own.Fr
attribute [local go_sem] Oper.semAt_some
theorem CN.limitIs {w:World} {ow:Nat->Tg} {b:Nat} {M:Cv} {L:Lay} (h:CN w ow b M L) (v:Int):CN (w.setCell ⟨b,12,none⟩ (.int .i64 v)) ow b {M with limit:=v} L/\Fr w ow (w.setCell ⟨b,12,none⟩ (.int .i64 v)) ow:=h.cell 12 _ rfl h.p
theorem CN.windowIs {w:World} {ow:Nat->Tg} {b:Nat} {M:Cv} {L:Lay} (h:CN w ow b M L) (v:Int):CN (w.setCell ⟨b,10,none⟩ (.int .i64 v)) ow b {M with window:=v} L/\Fr w ow (w.setCell ⟨b,10,none⟩ (.int .i64 v)) ow:=h.cell 10 _ rfl h.p
theorem CN.ackedIs {w:World} {ow:Nat->Tg} {b:Nat} {M:Cv} {L:Lay} (h:CN w ow b M L):CN (w.setCell ⟨b,13,none⟩ (.bool true)) ow b {M with acked:=true} L/\Fr w ow (w.setCell ⟨b,13,none⟩ (.bool true)) ow:=h.cell 13 _ rfl h.p
theorem settings_twice (w:World) (ow:Nat->Tg) (b:Nat) (M:Cv) (L:Lay) (i:Inf) (sv dv sz:Value) (h:CN w ow b M L) (ha:i.ack=true) (h0:M.acked=true):
 Calls Tryz.prog 155 #[.pointer (some ⟨b,0,none⟩),.agg (infC i sv dv),sz] w λe w'=>e= .panicked (fltE 1 0)/\Below w.heap.size w w':=by
 have HX:=hid (Blk.new w 91 (infC i sv dv));have h1:=hid ((Below.refl w.heap.size w).alloc (Nat.le_refl _) (.cells (infC i sv dv) 91));have h2:=hid (h.below h1.out);have HS:=hid (And.intro ha h0);clear h ha h0;go_enter Tryz.func155,Tryz.ntmps155;go_upto_region 1 with fail;generalize w.alloc (.cells (infC i sv dv) 91)=W0 at*
 have c5:W0.cell? ⟨w.heap.size,5,none⟩=some (.bool i.ack):=HX.out.cell 5;rw[HS.out.1]at c5;have c13:W0.cell? ⟨b,13,none⟩=some (.bool M.acked):=h2.out.blk.cell 13;rw[HS.out.2]at c13;go_wp2_with fail;refine(give_any 1 0 _).mono ?_;rintro e w1 ⟨rfl,hw⟩;subst w1;go_wp2;exact⟨rfl,rfl,h1.out⟩
end Go.Proofs.YtkpppjhbmnfmkaaGreatDoor
end

section
set_option maxHeartbeats 8000000
set_option maxRecDepth 100000
namespace Go.Proofs.YtkpppjhbmnfmkaaGreatDoor
open Lib (hid)
open Go.RowKit Go.Own Go.Own.Im Go.Own.Cx Go.Own.Fr
attribute [local go_sem] Oper.semAt_some
theorem piece_more (w:World) (ow:Nat->Tg) (b:Nat) (M:Cv) (L:Lay) (id:Nat) (fin:Bool) (l0 l1:List UInt8) (i:Inf) (sv:Value) (A:Option Addr) (n c:Nat) (h:CN w ow b M L) (hL:M.list=some (id,fin,l0)) (he:i.endHeads=false) (hr:Rd w w.heap.size A n l1) (hn:l0.length+n<=16384):
 Calls Tryz.prog 150 #[.pointer (some ⟨b,0,none⟩),.agg (infC i sv (.slice A n c))] w (CPostS w ow b (λM'=>M'={M with list:=some (id,fin,l0++l1)}) (.tuple #[])):=by
 have HX:=hid (Blk.new w 91 (infC i sv (.slice A n c)));have h6:=hid ((Below.refl w.heap.size w).alloc (Nat.le_refl _) (.cells (infC i sv (.slice A n c)) 91));have HC:=hid h;have HR:=hid hr;have hi:=hid hL;have HE:=hid he;clear h hr hL he;go_enter Tryz.func150,Tryz.ntmps150;go_upto_region 1 with fail;generalize w.alloc (.cells (infC i sv (.slice A n c)) 91)=W0 at*
 have h0:=hid (HC.out.below h6.out);have h2:=h0.out.p.lst;rw[hi.out]at h2;obtain⟨gp,bv,h7,hj,h8,h9⟩:=h2;obtain⟨A0,c0,rfl,_,_⟩:=h9.form;have c16:W0.cell? ⟨b,16,none⟩=some L.list:=h0.out.blk.cell 16;rw[h7]at c16;have p2:W0.cell? ⟨gp,2,none⟩=some (.slice A0 l0.length c0):=h8.cell 2;have x17:W0.cell? ⟨w.heap.size,17,none⟩=some (.slice A n c):=HX.out.cell 17;have x4:W0.cell? ⟨w.heap.size,4,none⟩=some (.bool i.endHeads):=HX.out.cell 4;rw[HE.out]at x4;have hs:=hid (show Oz W0.drew (λg=>ow g= .blk) (.slice A0 l0.length c0) l0 from h9.drew);have ht:=hid (show Rd W0.drew w.heap.size A n l1 from(HR.out.below h6.out).drew);have hk:=hid hj;have hl:=hid (show Blk W0.drew gp 195 #[.int .i64 (id:Nat),.bool fin,.slice A0 l0.length c0]from h8);have hb:=hid h7;have hu:=hid (show l0.length+n<=140737488355328 by omega);have hw:=hid (show Blk W0.drew w.heap.size 91 (infC i sv (.slice A n c))from HX.out);have hA:=hid (show Blk W0.drew b 80 (cnC M L)from h0.out.blk);have hC:=hid h0.out.tb;clear h9 hj h8 h7;go_region_law
  ((refine step_app_z byteP _ (by rfl) (.tmp 18) (.tmp 20) (by rfl) (λg=>ow g= .blk) (.slice A0 l0.length c0) l0 (by rfl) hs.out w.heap.size A n c l1 (by rfl) ht.out hu.out ?_
    intro A8 c8 w8 row8 hm h3 h4;have hD:=hid hm;have hE:=hid h3;have hF:=hid h4;have hc:=hl.out.grown h3 (λe=>by have h1:=(h4 gp e.symm).1;rw[hk.out]at h1;cases h1);have hG:w8.frozen? ⟨gp,2,none⟩=false:=hc.frozen 2;have hH:w8.cell? ⟨gp,2,none⟩=some (.slice A0 l0.length c0):=hc.cell 2;have ho:=hA.out.grown h3 (λe=>by have h1:=(h4 b e.symm).1;rw[hC.out]at h1;cases h1);have hf:w8.cell? ⟨b,16,none⟩=some (.pointer (some ⟨gp,0,none⟩)):=by have h:=ho.cell 16;rw[<-hb.out];exact h
    clear hc ho hm h3 h4))
 all_goals
  obtain⟨ow1,h5,hd,hh,hq⟩:=(show CN W0.drew ow b M L from h0.out.drew).blocks hi.out hb.out hk.out hl.out hD.out hE.out hF.out;have hI:=hid h5;have hJ:=hid (show Fr w ow _ ow1 from((Fr.below h6.out ow).trans (Fr.drewN _ ow 1)).trans hd);have y16:(w8.setCell ⟨gp,2,none⟩ (.slice A8 (l0.length+n) c8)).cell? ⟨b,16,none⟩=some (.pointer (some ⟨gp,0,none⟩)):=by have h:=h5.blk.cell 16;rw[<-hb.out];exact h
  have y2:(w8.setCell ⟨gp,2,none⟩ (.slice A8 (l0.length+n) c8)).cell? ⟨gp,2,none⟩=some (.slice A8 (l0.length+n) c8):=hq.cell 2;have yf:=h5.blk.frozen 16;have yx:(w8.setCell ⟨gp,2,none⟩ (.slice A8 (l0.length+n) c8)).cell? ⟨w.heap.size,4,none⟩=some (.bool false):=by
   have hK:ow w.heap.size= .no:=HC.out.new _ (Nat.le_refl _);have h1:=((hd.blk hw.out hK)).cell 4;rw[<-HE.out];exact h1
  clear h5 hd hh hq hG hH hf;generalize w8.setCell ⟨gp,2,none⟩ (.slice A8 (l0.length+n) c8)=W9 at*
  have hM:¬(16384:Int)<((l0.length+n:Nat):Int):=by omega
  go_wp2;refine bodyPost_ret (v:=.tuple #[]) (by simp[results,Tryz.results150]) rfl ⟨_,rfl,ow1,L,rfl,hI.out,hJ.out⟩
theorem piece_over (w:World) (ow:Nat->Tg) (b:Nat) (M:Cv) (L:Lay) (id:Nat) (fin:Bool) (l0 l1:List UInt8) (i:Inf) (sv:Value) (A:Option Addr) (n c:Nat) (h:CN w ow b M L) (hL:M.list=some (id,fin,l0)) (he:i.endHeads=i.endHeads) (hr:Rd w w.heap.size A n l1) (hn:16384<l0.length+n/\l0.length+n<=1000000):
 Calls Tryz.prog 150 #[.pointer (some ⟨b,0,none⟩),.agg (infC i sv (.slice A n c))] w (PPostS w ow b (λM'=>M'={M with list:=some (id,fin,l0++l1)}) 11 0):=by
 have HX:=hid (Blk.new w 91 (infC i sv (.slice A n c)));have h6:=hid ((Below.refl w.heap.size w).alloc (Nat.le_refl _) (.cells (infC i sv (.slice A n c)) 91));have HC:=hid h;have HR:=hid hr;have hi:=hid hL;clear h hr hL he;go_enter Tryz.func150,Tryz.ntmps150;go_upto_region 1 with fail;generalize w.alloc (.cells (infC i sv (.slice A n c)) 91)=W0 at*
 have h0:=hid (HC.out.below h6.out);have h2:=h0.out.p.lst;rw[hi.out]at h2;obtain⟨gp,bv,h7,hj,h8,h9⟩:=h2;obtain⟨A0,c0,rfl,_,_⟩:=h9.form;have c16:W0.cell? ⟨b,16,none⟩=some L.list:=h0.out.blk.cell 16;rw[h7]at c16;have p2:W0.cell? ⟨gp,2,none⟩=some (.slice A0 l0.length c0):=h8.cell 2;have x17:W0.cell? ⟨w.heap.size,17,none⟩=some (.slice A n c):=HX.out.cell 17;have x4:W0.cell? ⟨w.heap.size,4,none⟩=some (.bool i.endHeads):=HX.out.cell 4;have hs:=hid (show Oz W0.drew (λg=>ow g= .blk) (.slice A0 l0.length c0) l0 from h9.drew);have ht:=hid (show Rd W0.drew w.heap.size A n l1 from(HR.out.below h6.out).drew);have hk:=hid hj;have hl:=hid (show Blk W0.drew gp 195 #[.int .i64 (id:Nat),.bool fin,.slice A0 l0.length c0]from h8);have hb:=hid h7;have hu:=hid (show l0.length+n<=140737488355328 by omega);have hA:=hid (show Blk W0.drew w.heap.size 91 (infC i sv (.slice A n c))from HX.out);have hC:=hid (show Blk W0.drew b 80 (cnC M L)from h0.out.blk);have hD:=hid h0.out.tb;clear h9 hj h8 h7;go_region_law
  ((refine step_app_z byteP _ (by rfl) (.tmp 18) (.tmp 20) (by rfl) (λg=>ow g= .blk) (.slice A0 l0.length c0) l0 (by rfl) hs.out w.heap.size A n c l1 (by rfl) ht.out hu.out ?_
    intro A8 c8 w8 row8 hm h3 h4;have hE:=hid hm;have hF:=hid h3;have hG:=hid h4;have hc:=hl.out.grown h3 (λe=>by have h1:=(h4 gp e.symm).1;rw[hk.out]at h1;cases h1);have hH:w8.frozen? ⟨gp,2,none⟩=false:=hc.frozen 2;have hI:w8.cell? ⟨gp,2,none⟩=some (.slice A0 l0.length c0):=hc.cell 2;have ho:=hC.out.grown h3 (λe=>by have h1:=(h4 b e.symm).1;rw[hD.out]at h1;cases h1);have hf:w8.cell? ⟨b,16,none⟩=some (.pointer (some ⟨gp,0,none⟩)):=by have h:=ho.cell 16;rw[<-hb.out];exact h
    clear hc ho hm h3 h4))
 all_goals
  obtain⟨ow1,h5,hd,hh,hq⟩:=(show CN W0.drew ow b M L from h0.out.drew).blocks hi.out hb.out hk.out hl.out hE.out hF.out hG.out;have hJ:=hid h5;have hK:=hid (show Fr w ow _ ow1 from((Fr.below h6.out ow).trans (Fr.drewN _ ow 1)).trans hd);have y16:(w8.setCell ⟨gp,2,none⟩ (.slice A8 (l0.length+n) c8)).cell? ⟨b,16,none⟩=some (.pointer (some ⟨gp,0,none⟩)):=by have h:=h5.blk.cell 16;rw[<-hb.out];exact h
  have y2:(w8.setCell ⟨gp,2,none⟩ (.slice A8 (l0.length+n) c8)).cell? ⟨gp,2,none⟩=some (.slice A8 (l0.length+n) c8):=hq.cell 2;have yf:=h5.blk.frozen 16;have yx:(w8.setCell ⟨gp,2,none⟩ (.slice A8 (l0.length+n) c8)).cell? ⟨w.heap.size,4,none⟩=some (.bool i.endHeads):=by
   have hM:ow w.heap.size= .no:=HC.out.new _ (Nat.le_refl _);have h1:=((hd.blk hA.out hM)).cell 4;exact h1
  clear h5 hd hh hq hH hI hf;generalize w8.setCell ⟨gp,2,none⟩ (.slice A8 (l0.length+n) c8)=W9 at*
  have hN:(16384:Int)<((l0.length+n:Nat):Int):=by omega
  go_wp2_with fail;refine(give_any 11 0 _).mono ?_;rintro e w10 ⟨rfl,hw⟩;subst w10;go_wp2;exact⟨rfl,_,ow1,L,rfl,rfl,hJ.out,hK.out⟩
theorem works2_any (w:World) (ow:Nat->Tg) (b g:Nat) (M:Cv) (L:Lay) (Q:Ending->World->Prop) (i:Inf) (sv dv sz:Value) (h:CN w ow b M L) (hg:Blk w g 26 #[.pointer (some ⟨b,0,none⟩)])
 (h0:∀e w',Q e w'->e= .returned (.tuple #[])\/∃cs,e= .panicked cs)
 (hp:∀W,CN W ow b M L->Fr w ow W ow->Calls Tryz.prog 150 #[.pointer (some ⟨b,0,none⟩),.agg (infC i sv dv)] W Q):
 Calls Tryz.prog 151 #[.agg (infC i sv dv),sz,.pointer (some ⟨g,0,none⟩)] w Q:=by
 have HX:=hid (Blk.new w 91 (infC i sv dv));have h1:=(Below.refl w.heap.size w).alloc (Nat.le_refl _) (.cells (infC i sv dv) 91);have h2:=hid (h.below h1);have h3:=hid (Fr.below h1 ow);have h4:=hid (hg.below h1 hg.lt);have HP:=hid hp;have HR:=hid h0;have h5:=hid (show(Tryz.prog.info? 91).map (·.size)=some (infC i sv dv).size from infSize);clear h hg hp h0 h1;go_enter Tryz.func151,Tryz.ntmps151;go_upto_region 1 with fail;generalize w.alloc (.cells (infC i sv dv) 91)=W0 at*
 have g0:W0.cell? ⟨g,0,none⟩=some (.pointer (some ⟨b,0,none⟩)):=h4.out.cell 0;go_wp2_with (first
  |(refine wpList_rowGet _ rfl (.tmp 3) 91 rfl w.heap.size 91 _ rfl HX.out _ Tryz.underlying91 rfl h5.out ?_)
  |fail)
 refine(HP.out W0 h2.out h3.out).mono ?_;intro e w2 hq;rcases HR.out e w2 hq with rfl|⟨cs,rfl⟩
 · have HQ:=hid hq
   clear hq;go_wp2;go_end0;exact HQ.out
 · have HQ:=hid hq
   clear hq;go_wp2;exact⟨rfl,HQ.out⟩
end Go.Proofs.YtkpppjhbmnfmkaaGreatDoor
end
