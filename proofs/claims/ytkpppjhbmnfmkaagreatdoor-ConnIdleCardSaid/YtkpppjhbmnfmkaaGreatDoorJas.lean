/-
  
  
  
  
  
-/
import Derived.Test.YtkpppjhbmnfmkaaGreatDoorJab
import Derived.Test.YtkpppjhbmnfmkaaGreatDoorJaf
import Derived.Test.YtkpppjhbmnfmkaaGreatDoorFp
import Derived.Deep.RegionLaw
import Derived.Deep.RegionWith
import Derived.Deep.DrawnRows
import Derived.BigQuiet
import Derived.Recover
import Derived.Defers
import Derived.Deep.RegionHeld3
import Derived.BigRegion
set_option linter.unusedSimpArgs false
set_option linter.unusedVariables false
section
set_option maxHeartbeats 4000000
set_option maxRecDepth 100000
namespace Go.Proofs.YtkpppjhbmnfmkaaGreatDoor
open Lib (hid)
open Go.RowKit Go.Own Go.Own.Cx
attribute [local go_sem] Oper.semAt_some
structure BK (w:World) (B g d:Nat) (A:Option Addr) (n c:Nat) (l:List UInt8) (ov:Value) (out:List Hd.HdrV):Prop where
 blk:Blk w g 255 #[.pointer (some ⟨d,0,none⟩),.slice A n c,ov,.int .i64 (hszs out:Nat)]
 hg:B<=g
 le:n<=c
 few:n<=1000000
 rd_:Rd w B A n l
 dec:∃tv lim gone,Blk w d 137 #[tv,lim,gone]/\d<B/\∃p,tv= .pointer (some p)
 out_:Cm.Ew hdrC 63 3 w B ov out
 ne:∀j,ov.ownBlock=some j->j≠g
 max:∃m,w.cell? ⟨13,0,none⟩=some (.int .i64 m)
 maxB:13<B
section
variable {w w':World} {B g d n c:Nat} {A:Option Addr} {l:List UInt8} {ov:Value} {out:List Hd.HdrV}
theorem BK.below (h:BK w B g d A n c l ov out) (hb:Below w.heap.size w w') (hB:B<=w.heap.size):BK w' B g d A n c l ov out:=by
 obtain⟨tv,lim,gone,hd,h0,hp⟩:=h.dec;obtain⟨m,hm⟩:=h.max;exact⟨h.blk.below hb h.blk.lt,h.hg,h.le,h.few,h.rd_.below (hb.mono hB),⟨tv,lim,gone,hd.below hb (by omega),h0,hp⟩,h.out_.below hb,h.ne,⟨m,(World.cell?_of_block (hb.block _ (Nat.lt_of_lt_of_le h.maxB hB))).trans hm⟩,h.maxB⟩
theorem BK.cut (h:BK w B g d A (n+1) c l ov out) {A':Option Addr} {l':List UInt8} (hr:Rd w B A' n l') (hB:B<=w.heap.size):
 BK (w.setCell ⟨g,1,none⟩ (.slice A' n (c-1))) B g d A' n (c-1) l' ov out/\Below B w (w.setCell ⟨g,1,none⟩ (.slice A' n (c-1))):=by
 obtain⟨tv,lim,gone,hd,h0,hp⟩:=h.dec;obtain⟨m,hm⟩:=h.max;have hg:=h.hg;have hb:Below B w (w.setCell ⟨g,1,none⟩ (.slice A' n (c-1))):=(Below.refl B w).setCell (p:=⟨g,1,none⟩) hg _;refine⟨⟨h.blk.put 1 _,hg,by have:=h.le;omega,by have:=h.few;omega,hr.below hb,⟨tv,lim,gone,hd.below hb h0,h0,hp⟩,h.out_.grown (grown_setCell (World.grownBy.refl w (some g)) 1 _) (.inr λe=>h.ne g e rfl),h.ne,⟨m,(World.cell?_of_block (hb.block _ h.maxB)).trans hm⟩,h.maxB⟩,hb⟩
end
theorem hnum_any (w:World) (B g d:Nat) (A:Option Addr) (n c:Nat) (x:UInt8) (l:List UInt8) (ov:Value) (out:List Hd.HdrV) (i:Nat) (h:BK w B g d A (n+1) c (x::l) ov out) (hB:B<=w.heap.size) (hx:x.toNat=128+i) (hi:stat3 i≠none):
 Calls Tryz.prog 238 #[.pointer (some ⟨g,0,none⟩),.int .i64 7] w λe w'=>e= .returned (.int .i64 (i:Nat))/\∃A',BK w' B g d A' n (c-1) l ov out/\Below B w w':=by
 have HI:=hid (int_small A (n+1) c B x l i w h.rd_ hx hi);obtain⟨A',h0,hcut⟩:=cut_from (P:=Tryz.prog) (t:=22) (k:=1) byteP h.rd_ 1 rfl (by omega) h.le;have HR:=hid (h.cut h0 hB);have c1:w.cell? ⟨g,1,none⟩=some (.slice A (n+1) c):=h.blk.cell 1;have f1:=h.blk.frozen 1;clear h h0 hx hi;simp only[Nat.add_sub_cancel]at hcut;go_enter Tryz.func238,Tryz.ntmps238;go_wp2_with (first
  |(go_at_call 256
    with_reducible refine Calls.mono HI.out ?_
    rintro e w1 ⟨rfl,hw⟩;subst w1)
  |(go_at_call 242
    with_reducible refine Calls.mono (hgive_nil _) ?_
    rintro e w1 ⟨rfl,hw⟩;subst w1)
  |fail)
 go_ret;exact⟨rfl,A',HR.out.1,HR.out.2⟩
theorem results_header (tmps:Array Value) (w:World) (g:Nat) (a b c:Value) (ht:tmps[4]?=some (.pointer (some ⟨g,0,none⟩))) (hb:Blk w g 63 #[a,b,c]):
 (results Tryz.f237 tmps).run Tryz.prog w= .ok (.agg #[a,b,c]) w:=by
 have c0:w.cell? ⟨g,0,none⟩=some a:=hb.cell 0;have c1:w.cell? ⟨g,1,none⟩=some b:=hb.cell 1;have c2:w.cell? ⟨g,2,none⟩=some c:=hb.cell 2;simp[results,Tryz.results237,go_sem,ht,c0,c1,c2]
theorem header_any (w:World) (B g d:Nat) (A:Option Addr) (n c:Nat) (l:List UInt8) (ov:Value) (out:List Hd.HdrV) (i:Nat) (hd:Hd.HdrV) (h:BK w B g d A n c l ov out) (hi:stat3 i=some hd) (hB:B<=w.heap.size):
 Calls Tryz.prog 237 #[.pointer (some ⟨g,0,none⟩),.int .i64 (i:Nat)] w λe w'=>e= .returned (.agg (hdrC hd))/\Below w.heap.size w w':=by
 have HX:=hid (Blk.new w 63 #[.string ⟨#[]⟩,.string ⟨#[]⟩,.bool false]);have h1:=hid ((Below.refl w.heap.size w).alloc (Nat.le_refl _) (.cells #[.string ⟨#[]⟩,.string ⟨#[]⟩,.bool false] 63));have hk:=h.below h1.out hB;obtain⟨tv,lim,gone,h2,_,p,rfl⟩:=hk.dec;obtain⟨m,hm⟩:=hk.max;have HG:=hid (tget_any (.pointer (some p)) i hd hi _ m hm);have c0:(w.alloc (.cells #[.string ⟨#[]⟩,.string ⟨#[]⟩,.bool false] 63)).cell? ⟨g,0,none⟩=some (.pointer (some ⟨d,0,none⟩)):=hk.blk.cell 0;have d0:(w.alloc (.cells #[.string ⟨#[]⟩,.string ⟨#[]⟩,.bool false] 63)).cell? ⟨d,0,none⟩=some (.pointer (some p)):=h2.cell 0;clear h hk h2 hm hi hB;obtain⟨hn,hv,hne⟩:=hd;simp only[hdrC]at HG ⊢;go_enter Tryz.func237,Tryz.ntmps237;go_upto_region 1 with fail;generalize w.alloc (.cells #[.string ⟨#[]⟩,.string ⟨#[]⟩,.bool false] 63)=W0 at*
 go_wp2_with (first
  |(go_at_call 170
    with_reducible refine Calls.mono HG.out ?_
    rintro e w1 ⟨rfl,hb⟩;have h3:=hid (h1.out.trans (hb.mono h1.out.size));have h0:=hid (HX.out.below hb HX.out.lt);have x0:=h0.out.cell 0;have x1:=h0.out.cell 1;have x2:=h0.out.cell 2;have xf:=h0.out.frozen 0;have xf1:=h0.out.frozen 1;have xf2:=h0.out.frozen 2;have xl:=h0.out.lt;have xne:¬w.heap.size=w1.heap.size:=by omega
    have xne':¬w1.heap.size=w.heap.size:=by omega
    simp only[List.getElem?_toArray,List.getElem?_cons_zero,List.getElem?_cons_succ]at x0 x1 x2;clear hb)
  |fail)
 refine bodyPost_ret (results_header _ _ w.heap.size _ _ _ rfl ((Blk3 h0.out rfl _ _ _).alloc _)) rfl ⟨rfl,(below3 h3.out (Nat.le_refl _) _ _ _).alloc (below3 h3.out (Nat.le_refl _) _ _ _).size _⟩
theorem elH:Cm.ElP Tryz.prog hdrC 41 63 3 40:=by
 refine⟨Tryz.underlying41,?_,λ_=>rfl,?_,by omega,by omega⟩
 · obtain⟨i,hi,hz,h1,h2⟩:=info_parts hdrInfo
   exact⟨i,_,hi,hz,h1,h2,rfl⟩
 · intro x u hu
   simp only[hdrC,List.mem_cons,List.not_mem_nil,or_false]at hu;rcases hu with rfl|rfl|rfl<;>rfl
theorem hsize_any (hn hv:ByteArray) (ne:Bool) (w:World) (h1:hn.size<=1000000) (h2:hv.size<=1000000):Calls Tryz.prog 135 #[.agg #[.string hn,.string hv,.bool ne]] w λe w'=>e= .returned (.int .i64 (hn.size+hv.size+32:Nat))/\w'=w.alloc (.cells #[.string hn,.string hv,.bool ne] 63):=by
 have e1:wrap64 ((hn.size:Int)+hv.size)=(hn.size:Int)+hv.size:=by unfold wrap64;omega
 have e3:hv.size<=1000000:=h2;have e2:wrap64 ((hn.size:Int)+hv.size+32)=(hn.size:Int)+hv.size+32:=by unfold wrap64;omega
 go_enter Tryz.func135,Tryz.ntmps135;go_wp2;go_ret;exact⟨by simp[e1,e2],rfl⟩
theorem BK.told {w W0 WA w8:World} {B g d n c:Nat} {A:Option Addr} {l:List UInt8} {ov v8:Value} {out:List Hd.HdrV} {hd:Hd.HdrV} (h:BK W0 B g d A n c l ov out) (h0:Below B w W0) (hB:B<=W0.heap.size) {s2:Nat} (hs2:hszs (out++[hd])=s2)
 (h2:Blk WA g 255 #[.pointer (some ⟨d,0,none⟩),.slice A n c,ov,.int .i64 (s2:Nat)]) (h4:Below B W0 WA) (hown:Cm.Ew hdrC 63 3 w8 B v8 (out++[hd])) (hg:WA.grownBy w8 ov.ownBlock) (hv:v8.ownBlock=ov.ownBlock\/v8.ownBlock=some WA.heap.size):
 BK (w8.setCell ⟨g,2,none⟩ v8) B g d A n c l v8 (out++[hd])/\Below B w (w8.setCell ⟨g,2,none⟩ v8):=by
 obtain⟨tv,lim,gone,h7,h5,hp⟩:=h.dec;obtain⟨m,hm⟩:=h.max;have h9:=h2.lt;have h8:Below B W0 w8:=h4.grown hg (Nat.le_trans hB h4.size) λk e=>(h.out_.lt k e).1;have h3:Below B W0 (w8.setCell ⟨g,2,none⟩ v8):=h8.setCell (p:=⟨g,2,none⟩) h.hg _;have hne:some g≠ov.ownBlock:=λe=>h.ne g e.symm rfl;have h6:∀j,v8.ownBlock=some j->j≠g:=λj e=>by
  rcases hv with hv|hv
  · exact h.ne j (hv▸e)
  · rw[hv]at e;injection e with e;omega
 refine⟨⟨?_,h.hg,h.le,h.few,h.rd_.below h3,⟨tv,lim,gone,h7.below h3 h5,h5,hp⟩,hown.grown (grown_setCell (World.grownBy.refl w8 (some g)) 2 _) (.inr λe=>h6 g e rfl),h6,⟨m,(World.cell?_of_block (h3.block _ h.maxB)).trans hm⟩,h.maxB⟩,h0.trans h3⟩;have h1:=(h2.grown hg hne).put 2 v8;simp only[List.setIfInBounds_toArray,List.set_cons_zero,List.set_cons_succ]at h1;rw[hs2];exact h1
theorem htell_any (w:World) (B g d:Nat) (A:Option Addr) (n c:Nat) (l:List UInt8) (ov:Value) (out:List Hd.HdrV) (hd:Hd.HdrV) (h:BK w B g d A n c l ov out) (hB:B<=w.heap.size) (h1:hd.name.size<=1000) (h2:hd.value.size<=1000) (h3:hszs out<=10000) (h4:out.length<=1000):
 Calls Tryz.prog 236 #[.pointer (some ⟨g,0,none⟩),.agg (hdrC hd)] w λe w'=>e= .returned (.tuple #[])/\∃ov',BK w' B g d A n c l ov' (out++[hd])/\Below B w w':=by
 have HX:=hid (Blk.new w 63 (hdrC hd));have h7:=hid ((Below.refl w.heap.size w).alloc (Nat.le_refl _) (.cells (hdrC hd) 63));have HK:=hid (h.below h7.out hB);obtain⟨A0,c0,h8,_,_⟩:=h.out_.form;have HZ:=hid (show(w.alloc (.cells (hdrC hd) 63)).heap.size=w.heap.size+1 by simp);have ho:=h.blk.lt;obtain⟨hn,hv,hne⟩:=hd;simp only at h1 h2;have HS:=hid (λW=>hsize_any hn hv hne W (by omega) (by omega));have hc:=hid (show hszs (out++[⟨hn,hv,hne⟩])=hszs out+(hn.size+hv.size+32)by simp[hszs,hsz]);clear h;simp only[hdrC]at HX h7 HK HZ ⊢;have hq:IntKind.i64.wrap ((hszs out:Int)+((hn.size+hv.size+32:Nat):Int))=((hszs out+(hn.size+hv.size+32):Nat):Int):=by rw[IntKind.wrap_i64];omega
 have ht:¬(16384:Int)<((hszs out+(hn.size+hv.size+32):Nat):Int):=by omega
 have g3:=HK.out.blk.cell 3;simp only[List.getElem?_toArray,List.getElem?_cons_zero,List.getElem?_cons_succ]at g3;have HG:=hid (HK.out.blk.put 3 (.int .i64 ((hszs out+(hn.size+hv.size+32):Nat):Int)));simp only[List.setIfInBounds_toArray,List.set_cons_zero,List.set_cons_succ]at HG;generalize hszs out=so at*
 generalize hn.size+hv.size+32=sh at*
 generalize hu:so+sh=s2 at*
 go_enter Tryz.func236,Tryz.ntmps236;go_upto_region 1 with fail;generalize w.alloc (.cells #[.string hn,.string hv,.bool hne] 63)=W0 at*
 have gf:=HK.out.blk.frozen 3;have x0:=HX.out.cell 0;have x1:=HX.out.cell 1;have x2:=HX.out.cell 2;simp only[List.getElem?_toArray,List.getElem?_cons_zero,List.getElem?_cons_succ]at x0 x1 x2;have xl:=HX.out.lt;have gl:=HK.out.blk.lt;have h0:=hid (show Blk ((W0.setCell ⟨g,3,none⟩ (.int .i64 (s2:Nat))).alloc (.cells #[.string hn,.string hv,.bool hne] 63)).drew g 255 #[.pointer (some ⟨d,0,none⟩),.slice A n c,ov,.int .i64 (s2:Nat)]/\
  Below B W0 ((W0.setCell ⟨g,3,none⟩ (.int .i64 (s2:Nat))).alloc (.cells #[.string hn,.string hv,.bool hne] 63)).drew/\
  Cm.Ew hdrC 63 3 ((W0.setCell ⟨g,3,none⟩ (.int .i64 (s2:Nat))).alloc (.cells #[.string hn,.string hv,.bool hne] 63)).drew B ov out/\
  Blk ((W0.setCell ⟨g,3,none⟩ (.int .i64 (s2:Nat))).alloc (.cells #[.string hn,.string hv,.bool hne] 63)).drew w.heap.size 63 #[.string hn,.string hv,.bool hne]from
  ⟨HG.out.alloc _,bdN (((Below.refl B W0).setCell (p:=⟨g,3,none⟩) HK.out.hg _).alloc (by simp[World.setCell];omega) _) 1,
    (HK.out.out_.grown (grown_setCell (World.grownBy.refl W0 (some g)) 3 _) (.inr λe=>HK.out.ne g e rfl)).grown (grown_drewN (World.grownBy_alloc _ _ none) 1) (Cm.own_or _),(HX.out.far (p:=⟨g,3,none⟩) (by simp;omega) _).alloc _⟩)
 go_region_with (first
  |(go_at_call 135
    with_reducible refine Calls.mono (HS.out _) ?_
    rintro e w1 ⟨rfl,hw⟩;subst w1)
  |fail)
 all_goals
  generalize ((W0.setCell ⟨g,3,none⟩ (.int .i64 (s2:Nat))).alloc (.cells #[.string hn,.string hv,.bool hne] 63)).drew=W2 at*
  have c3:W2.cell? ⟨g,3,none⟩=some (.int .i64 (s2:Nat)):=h0.out.1.cell 3;have c2:W2.cell? ⟨g,2,none⟩=some ov:=h0.out.1.cell 2;rw[h8]at c2;have z0:=h0.out.2.2.2.cell 0;have z1:=h0.out.2.2.2.cell 1;have z2:=h0.out.2.2.2.cell 2;simp only[List.getElem?_toArray,List.getElem?_cons_zero,List.getElem?_cons_succ]at z0 z1 z2;have zl:=h0.out.2.2.2.lt;have hA:=h0.out.1.lt;clear g3 gf x0 x1 x2 xl gl;have he:=hid (show Cm.Ew hdrC 63 3 (W2.drew.alloc (.cells #[.string hn,.string hv,.bool hne] 63)) B (.slice A0 out.length c0) out from h8▸h0.out.2.2.1.grown (show W2.grownBy _ none from⟨rfl,rfl,rfl,by simp,λk hk _=>Below.heap_alloc W2.drew _ k hk⟩) (Cm.own_or _));have hf:Hid (Cm.RS hdrC 3 (W2.drew.alloc (.cells #[.string hn,.string hv,.bool hne] 63)) (W2.drew.alloc (.cells #[.string hn,.string hv,.bool hne] 63)).heap.size (some ⟨W2.heap.size,0,none⟩) 1 [⟨hn,hv,hne⟩]):=hid (by
   have h:=(Cm.Ew.lit (k:=3) hdrC 63 (λ_=>rfl) W2.drew [⟨hn,hv,hne⟩] (by simp)).rs (λ_=>rfl) (by omega);have e1:(Cm.flat hdrC [⟨hn,hv,hne⟩]).toArray= #[.string hn,.string hv,.bool hne]:=by simp[Cm.flat,hdrC]
   rw[e1]at h;exact h)
  have hh:=hid (show out.length+1<=1000000 by omega);have hi:=hid (show B<=(W2.drew.alloc (.cells #[.string hn,.string hv,.bool hne] 63)).heap.size by have:=h0.out.2.1.size;simp;omega);go_wp2_with fail;go_region_law
   ((refine Cm.step_app_e elH _ (by rfl) (.tmp 24) (.tmp 26) (by rfl) B (.slice A0 out.length c0) out (by rfl) he.out _ (some ⟨W2.heap.size,0,none⟩) 1 1 [⟨hn,hv,hne⟩] (by rfl) hf.out hh.out hi.out ?_
     intro A8 c8 w8 h5 h6 h9;have hj:=hid h6;have hl:=hid h5;have hm:=hid h9;have hb:=((show Blk W2.drew g 255 #[.pointer (some ⟨d,0,none⟩),.slice A n c,ov,.int .i64 (s2:Nat)]from h0.out.1).alloc (.cells #[.string hn,.string hv,.bool hne] 63)).grown h6 (λe=>HK.out.ne g (h8▸e.symm) rfl);have hC:w8.frozen? ⟨g,2,none⟩=false:=hb.frozen 2;have hD:w8.cell? ⟨g,2,none⟩=some ov:=hb.cell 2;clear hb h5 h6 h9))
 all_goals
  go_wp2;go_end0;have hT:=HK.out.told (h7.out.mono hB) (by have:=h7.out.size;omega) hc.out (WA:=W2.drew.alloc (.cells #[.string hn,.string hv,.bool hne] 63)) ((show Blk W2.drew g 255 #[.pointer (some ⟨d,0,none⟩),.slice A n c,ov,.int .i64 (s2:Nat)]from h0.out.1).alloc _) ((bdN h0.out.2.1 1).alloc (by have:=h0.out.2.1.size;have:=h7.out.size;show B<=W2.heap.size;omega) _) hl.out (h8▸hj.out) (h8▸hm.out);exact⟨rfl,_,hT.1,hT.2⟩
end Go.Proofs.YtkpppjhbmnfmkaaGreatDoor
end

section
set_option maxHeartbeats 1000000
namespace Go.Proofs.YtkpppjhbmnfmkaaGreatDoor
open Lib (hid)
open Go.RowKit Go.Own Go.Own.Cx
theorem stat3_small {i:Nat} {h:Hd.HdrV} (hi:stat3 i=some h):h.name.size<=20/\h.value.size<=20/\hsz h<=100/\128+i<256/\bits .and .u8 ((128+i:Nat):Int) 128=128:=by
 rcases stat3_at hi with⟨rfl,rfl⟩|⟨rfl,rfl⟩|⟨rfl,rfl⟩<;>refine⟨by decide,by decide,by decide,by decide,by decide⟩
theorem kind1_any (w:World) (B g d:Nat) (A:Option Addr) (n c:Nat) (x:UInt8) (l:List UInt8) (ov:Value) (out:List Hd.HdrV) (i:Nat) (hd:Hd.HdrV) (h:BK w B g d A (n+1) c (x::l) ov out) (hB:B<=w.heap.size) (hx:x.toNat=128+i) (hi:stat3 i=some hd) (h3:hszs out<=10000) (h4:out.length<=100):
 Calls Tryz.prog 235 #[.pointer (some ⟨g,0,none⟩)] w λe w'=>e= .returned (.tuple #[])/\∃A' ov',BK w' B g d A' n (c-1) l ov' (out++[hd])/\Below B w w':=by
 have HN:=hid (hnum_any w B g d A n c x l ov out i h hB hx (by rw[hi];simp));have HH:=hid (λW A c (h:BK W B g d A n c l ov out) (hB:B<=W.heap.size)=>header_any W B g d A n c l ov out i hd h hi hB);have hs:=stat3_small hi;have HT:=hid (λW A c (h:BK W B g d A n c l ov out) (hB:B<=W.heap.size)=>htell_any W B g d A n c l ov out hd h hB (by omega) (by omega) h3 (by omega));have HB:=hid hB;clear h hx hi h3 h4 hs hB;obtain⟨hn,hv,hne⟩:=hd;simp only[hdrC]at HH HT;go_enter Tryz.func235,Tryz.ntmps235;go_wp2_with (first
  |(go_at_call 238
    with_reducible refine Calls.mono HN.out ?_
    rintro e w1 ⟨rfl,A1,h5,h0⟩;have h6:=hid h5;have hb:=hid h0;have h1:=hid (Nat.le_trans HB.out h0.size);clear h5 h0)
  |(go_at_call 237
    with_reducible refine Calls.mono (HH.out _ _ _ h6.out h1.out) ?_
    rintro e w2 ⟨rfl,h2⟩;have hc:=hid (h6.out.below h2 h1.out);have h7:=hid (hb.out.trans (h2.mono h1.out));have he:=hid (Nat.le_trans HB.out h7.out.size);clear h2)
  |(go_at_call 236
    with_reducible refine Calls.mono (HT.out _ _ _ hc.out he.out) ?_
    rintro e w3 ⟨rfl,ov3,h8,h9⟩;have hf:=hid h8;have hh:=hid (h7.out.trans h9);clear h8 h9)
  |fail)
 go_end0;exact⟨rfl,A1,ov3,hf.out,hh.out⟩
def kindC:Array Value:=#[.int .u8 128,.int .u8 128,.func (.func 235) #[] #[],.int .u8 192,.int .u8 64,.func (.func 239) #[] #[],.int .u8 224,.int .u8 32,.func (.func 241) #[] #[],.int .u8 240,.int .u8 16,.func (.func 243) #[] #[],.int .u8 240,.int .u8 0,.func (.func 244) #[] #[]]
theorem kinds_any (w:World):Calls Tryz.prog 218 #[] w λe w'=>e= .returned (.slice (some ⟨w.heap.size,0,none⟩) 5 5)/\w'=w.alloc (.cells kindC 260):=by
 go_enter Tryz.func218,Tryz.ntmps218;go_wp2;go_ret;exact⟨rfl,rfl⟩
theorem decode1_idle (a b c:Addr) (w:World):
 CallsD Tryz.prog 216 #[.pointer (some a),.pointer (some b),.pointer (some c)] .returning w λe u' w'=>e= .returned (.tuple #[])/\u'= .returning/\w'=w:=by
 refine callsD_of_wpS Tryz.func216 rfl λc₀ cs hu=>?_;apply wpS_seq;apply wpS_region;simp[wpOpsS,go_sem,recoverD,hu,Tryz.ntmps216,Exit.thenS];apply wpS_seq;apply wpS_region;simp[wpOpsS,go_sem,Exit.thenS];refine wpS_cond (t:=false) (by simp[Act.eval,Array.replicate]) ?_;simp only[Bool.false_eq_true,if_false];refine wpS_of_wp (wp_skip ?_);cases c₀;simp_all[bodyPostS,results,Tryz.results216]
end Go.Proofs.YtkpppjhbmnfmkaaGreatDoor
end

section
set_option maxHeartbeats 8000000
set_option maxRecDepth 100000
namespace Go.Proofs.YtkpppjhbmnfmkaaGreatDoor
open Lib (hid)
open Go.RowKit Go.Own Go.Own.Cx
def Ix:List UInt8->List Hd.HdrV->Prop
 |[],[]=>True
 |x::l,h::hs=>(∃i,x.toNat=128+i/\stat3 i=some h)/\Ix l hs
 |_,_=>False
theorem Ix.len:∀{l:List UInt8} {hs:List Hd.HdrV},Ix l hs->l.length=hs.length
 |[],[],_=>rfl
 |_::l,_::hs,h=>by simp[Ix.len (l:=l) (hs:=hs) h.2]
 |[],_::_,h=>h.elim
 |_::_,[],h=>h.elim
theorem Ix.at_ {l:List UInt8} {hs:List Hd.HdrV} {n:Nat} (h:Ix l hs) (hn:l.length=n+1):∃x l' hd hs' i,l=x::l'/\hs=hd::hs'/\x.toNat=128+i/\stat3 i=some hd/\Ix l' hs'/\l'.length=n:=by
 match l,hs,h with
 |[],_,_=>simp at hn
 |x::l',hd::hs',⟨⟨i,h1,h2⟩,h3⟩=>exact⟨x,l',hd,hs',i,rfl,rfl,h1,h2,h3,by simpa using hn⟩
 |_::_,[],h=>exact h.elim
structure DJ (W wr:World) (B g d:Nat) (hs:List Hd.HdrV) (A:Option Addr) (n c:Nat) (l:List UInt8) (ov:Value) (done rest:List Hd.HdrV):Prop where
 bk:BK wr B g d A n c l ov done
 ix:Ix l rest
 all_:done++rest=hs
 sz:hszs done<=100*done.length
 ln:done.length+n<=100
 low:Below B W wr
 hB:B<=wr.heap.size
def DI (W:World) (B g d:Nat) (hs:List Hd.HdrV) (wr:World):Prop:=∃A n c l ov done rest,DJ W wr B g d hs A n c l ov done rest
def lenK (w:World) (g:Nat):Nat:=match w.cell? ⟨g,1,none⟩with|some (.slice _ n _)=>n|_=>0
theorem lenK_of {w:World} {g n c:Nat} {A:Option Addr} (h:w.cell? ⟨g,1,none⟩=some (.slice A n c)):lenK w g=n:=by rw[lenK,h]
theorem results_decode (tmps:Array Value) (w:World) (g1 g2:Nat) (a b:Value) (h4:tmps[4]?=some (.pointer (some ⟨g1,0,none⟩))) (h5:tmps[5]?=some (.pointer (some ⟨g2,0,none⟩))) (c1:w.cell? ⟨g1,0,none⟩=some a) (c2:w.cell? ⟨g2,0,none⟩=some b):
 (results Tryz.f194 tmps).run Tryz.prog w= .ok (.tuple #[a,b]) w:=by
 simp[results,Tryz.results194,go_sem,h4,h5,c1,c2]
theorem decode_any (w:World) (d p:Nat) (lim:Value) (A:Option Addr) (n c B0:Nat) (l:List UInt8) (hs:List Hd.HdrV) (m:Int) (hd:Blk w d 137 #[.pointer (some ⟨p,0,none⟩),lim,.bool false]) (hr:Rd w B0 A n l) (hB:B0<=w.heap.size) (hc:n<=c) (hn:n<=100) (hk:Ix l hs)
 (hm:w.cell? ⟨13,0,none⟩=some (.int .i64 m)):
 Calls Tryz.prog 194 #[.pointer (some ⟨d,0,none⟩),.slice A n c] w λe w'=>∃A' c',e= .returned (.tuple #[.slice A' hs.length c',.nilIface])/\hs.length<=c'/\Cm.RS hdrC 3 w' w'.heap.size A' hs.length hs/\(0<hs.length->∀ad,A'=some ad->w.heap.size<=ad.block)/\Below w.heap.size w w':=by
 have hV:∀(fn:Fn) (first cap:Array Value) (w:World),(Instr.makeFunc fn first cap).run Tryz.prog w= .ok (.func fn first cap) w:=λ_ _ _ _=>rfl;have hg:=World.block_lt_of_cell? w _ hm;have h5:=hid (((((Below.refl w.heap.size w).alloc (Nat.le_refl _) (.cells #[.pointer (some ⟨d,0,none⟩)] 78)).alloc (by simp) (.cells #[.slice none 0 0] 41))).alloc (by simp;omega) (.cells #[.nilIface] 28));have X0:=hid (((Blk.new w 78 #[.pointer (some ⟨d,0,none⟩)]).alloc (.cells #[.slice none 0 0] 41)).alloc (.cells #[.nilIface] 28));have X1:=hid ((Blk.new (w.alloc (.cells #[.pointer (some ⟨d,0,none⟩)] 78)) 41 #[.slice none 0 0]).alloc (.cells #[.nilIface] 28));have X2:=hid (Blk.new ((w.alloc (.cells #[.pointer (some ⟨d,0,none⟩)] 78)).alloc (.cells #[.slice none 0 0] 41)) 28 #[.nilIface]);have HZ:=hid (show(((w.alloc (.cells #[.pointer (some ⟨d,0,none⟩)] 78)).alloc (.cells #[.slice none 0 0] 41)).alloc (.cells #[.nilIface] 28)).heap.size=w.heap.size+1+1+1 by simp);have HD:=hid (hd.below h5.out hd.lt);have HR:=hid ((hr.more hB).below h5.out);have HM:=hid (show _=some (.int .i64 m)from(World.cell?_of_block (a:=⟨13,0,none⟩) (h5.out.block _ hg)).trans hm);have HI:=hid hk;have hT:=hr.1;have hW:=hd.lt;clear hd hr hm hk;simp only[World.size_alloc]at X1 X2;go_enter_defers Tryz.func194,Tryz.ntmps194;go_upto_region 1 with fail;generalize ((w.alloc (.cells #[.pointer (some ⟨d,0,none⟩)] 78)).alloc (.cells #[.slice none 0 0] 41)).alloc (.cells #[.nilIface] 28)=W0 at*
 have d2:W0.cell? ⟨d,2,none⟩=some (.bool false):=HD.out.cell 2;have x0:=X0.out.cell 0;simp only[List.getElem?_toArray,List.getElem?_cons_zero,List.getElem?_cons_succ]at x0;go_wp2_with fail;have hz:=HZ.out;have hC:=hid (show DI (W0.alloc (.cells #[.pointer (some ⟨d,0,none⟩),.slice A n c,.slice none 0 0,.int .i64 0] 255)) W0.heap.size W0.heap.size d hs (W0.alloc (.cells #[.pointer (some ⟨d,0,none⟩),.slice A n c,.slice none 0 0,.int .i64 0] 255))from
  ⟨A,n,c,l,.slice none 0 0,[],hs,⟨⟨Blk.new W0 _ _,Nat.le_refl _,hc,by omega,(HR.out.more (by omega)).alloc (Nat.le_refl _) _,⟨_,_,_,HD.out.alloc _,by omega,⟨p,0,none⟩,rfl⟩,Cm.Ew.nil _ _ _ _ _,(λj e=>by cases e),⟨m,(World.cell?_of_block (((Below.refl W0.heap.size W0).alloc (Nat.le_refl _) _).block _ (by show 13<_;omega))).trans HM.out⟩,by omega⟩,
    HI.out,rfl,Nat.le_refl _,by simp;omega,Below.refl _ _,by simp⟩⟩)
 have Y1:=hid (X1.out.alloc (.cells #[.pointer (some ⟨d,0,none⟩),.slice A n c,.slice none 0 0,.int .i64 0] 255));have Y2:=hid (X2.out.alloc (.cells #[.pointer (some ⟨d,0,none⟩),.slice A n c,.slice none 0 0,.int .i64 0] 255));have hD:=hid (h5.out.alloc h5.out.size (.cells #[.pointer (some ⟨d,0,none⟩),.slice A n c,.slice none 0 0,.int .i64 0] 255));generalize W0.alloc (.cells #[.pointer (some ⟨d,0,none⟩),.slice A n c,.slice none 0 0,.int .i64 0] 255)=W1 at*
 have hX:w.heap.size+1+1<W0.heap.size:=by omega
 clear d2 x0 hz HZ;generalize W0.heap.size=G at*
 go_loopw [24] (λ_ wr=>DI W1 G G d hs wr) (λ_ wr=>lenK wr G)
 case atStart=>exact hC.out
 case round=>
  obtain⟨A1,n1,c1,l1,ov1,done,rest,hj⟩:=hrel;have HJ:=hid hj;have k1:wr.cell? ⟨G,1,none⟩=some (.slice A1 n1 c1):=hj.bk.blk.cell 1;have hE:lenK wr G=n1:=lenK_of k1;obtain⟨Ao,co,hb,hF,_⟩:=hj.bk.out_.form;have k2:wr.cell? ⟨G,2,none⟩=some ov1:=hj.bk.blk.cell 2;rw[hb]at k2;have z1:Blk wr (w.heap.size+1) 41 #[.slice none 0 0]:=Y1.out.below hj.low (by omega);have z2:Blk wr (w.heap.size+1+1) 28 #[.nilIface]:=Y2.out.below hj.low (by omega);have hG:=hid z1;have hH:=hid z2;clear hj;cases n1 with
  |zero=>
   have y1:=z1.cell 0;have y2:=z2.cell 0;have f1:=z1.frozen 0;have f2:=z2.frozen 0;simp only[List.getElem?_toArray,List.getElem?_cons_zero]at y1 y2;go_wp2;refine leaves_cons (f:=216) (args:=#[.pointer (some ⟨w.heap.size,0,none⟩),.pointer (some ⟨w.heap.size+1,0,none⟩),.pointer (some ⟨w.heap.size+1+1,0,none⟩)]) (by simp) (by simp[go_sem]) ?_;refine(decode1_idle _ _ _ _).mono ?_;rintro e u' w'' ⟨rfl,rfl,rfl⟩;have hI:rest=[]:=by
    have h1:=HJ.out.ix.len;have h2:=HJ.out.bk.rd_.1;exact List.eq_nil_of_length_eq_zero (by omega)
   have h7:done=hs:=by
    have h1:=HJ.out.all_;rw[hI,List.append_nil]at h1;exact h1
   subst h7;have hJ:wr.heap.size=((wr.setCell ⟨w.heap.size+1,0,none⟩ (.slice Ao done.length co)).setCell ⟨w.heap.size+1+1,0,none⟩ .nilIface).heap.size:=by simp[World.setCell]
   have he:=HJ.out.bk.out_;rw[hb]at he;have hK:=he.rs (λ_=>rfl) (by omega);have h3:=he.from;refine⟨_,results_decode _ _ (w.heap.size+1) (w.heap.size+1+1) _ _ rfl rfl (((hG.out.put 0 _).far (p:=⟨w.heap.size+1+1,0,none⟩) (by simp) _).cell 0) (((hH.out.far (p:=⟨w.heap.size+1,0,none⟩) (by simp) _).put 0 _).cell 0),Ao,co,rfl,hF,?_,λ_ ad e=>by have:=h3 ad e;omega,?_⟩
   · rw[<-hJ]
     exact(hK.setCell (λad e=>by have:=h3 ad e;simp;omega) _).setCell (λad e=>by have:=h3 ad e;simp;omega) _
   · exact((hD.out.trans (HJ.out.low.mono (by omega))).setCell (p:=⟨w.heap.size+1,0,none⟩) (by simp) _).setCell (p:=⟨w.heap.size+1+1,0,none⟩) (by simp;omega) _
  |succ k=>
   obtain⟨x,l',h8,hL,i,rfl,rfl,hx,hi,h6,hY⟩:=HJ.out.ix.at_ HJ.out.bk.rd_.1;obtain⟨ad,hA,hZ,hcell⟩:=HJ.out.bk.rd_.at_ (k:=0) (by omega);subst hA;have hcell:wr.cell? ad=some (.int .u8 (x.toNat:Int)):=hcell;rw[hx]at hcell;have hN:=hid (stat3_small hi);have HX:=hid hx;have hO:=hid hi;have hP:=hid h6;have hU:bits .and .u8 ((128+i:Nat):Int) 128=128:=(stat3_small hi).2.2.2.2;have hf:=HJ.out.hB;have h4:=hid ((Below.refl wr.heap.size wr).alloc (Nat.le_refl _) (.cells kindC 260));have HQ:=hid (Blk.new wr 260 kindC);clear hx hi h6 hb;generalize H0:((128+i:Nat):Int)=xi at*
   go_wp2_with (first
    |(go_at_call 218
      refine Calls.mono (kinds_any _) ?_;rintro e w1 ⟨rfl,hw⟩;rw[<-hw]at h4 HQ;clear hw)
    |fail)
   have hQ:=hid (HJ.out.bk.below h4.out hf);have q0:w1.cell? ⟨wr.heap.size,0,none⟩=some (.int .u8 128):=HQ.out.cell 0;have q1:w1.cell? ⟨wr.heap.size,1,none⟩=some (.int .u8 128):=HQ.out.cell 1;have q2:w1.cell? ⟨wr.heap.size,2,none⟩=some (.func (.func 235) #[] #[]):=HQ.out.cell 2;have hh:=hid (Blk.new w1 260 #[.int .u8 128,.int .u8 128,.func (.func 235) #[] #[]]);have h9:=hid ((Below.refl w1.heap.size w1).alloc (Nat.le_refl _) (.cells #[.int .u8 128,.int .u8 128,.func (.func 235) #[] #[]] 260));have h0:=hid (Nat.le_trans hf h4.out.size);have hR:=hid (show w1.cell? ad=_ from(World.cell?_of_block (h4.out.block _ (by omega))).trans hcell);have ql:=HQ.out.lt;clear hcell k1 k2;go_loop [27] (λt=>t= .int .i64 0) (λ_=>0)
   case atStart=>rfl
   case round=>
    obtain rfl:=hrel;go_upto_region 9 with fail;have hl:=hid (λj=>hQ.out.below (bdN h9.out j) h0.out);have kc:(w1.alloc (.cells #[.int .u8 128,.int .u8 128,.func (.func 235) #[] #[]] 260)).cell? ad=some (.int .u8 xi):=(World.cell?_of_block (h9.out.block _ (by have:=h0.out;omega))).trans hR.out;generalize w1.alloc (.cells #[.int .u8 128,.int .u8 128,.func (.func 235) #[] #[]] 260)=W2 at*
    have v0:W2.cell? ⟨w1.heap.size,0,none⟩=some (.int .u8 128):=hh.out.cell 0;have v1:W2.cell? ⟨w1.heap.size,1,none⟩=some (.int .u8 128):=hh.out.cell 1;have v2:W2.cell? ⟨w1.heap.size,2,none⟩=some (.func (.func 235) #[] #[]):=hh.out.cell 2;have k1:W2.cell? ⟨G,1,none⟩=some (.slice (some ad) (k+1) c1):=(hl.out 0).blk.cell 1;clear q0 q1 q2 ql;go_quiet (fail);go_wp2_with (first
     |(go_at_call 235
       refine Calls.mono (kind1_any _ G G d (some ad) k c1 x l' ov1 done i h8 (hl.out _) ?_ HX.out hO.out ?_ ?_) ?_
       · have:=h0.out;have:=h9.out.size;show G<=W2.heap.size;omega
       · have:=HJ.out.sz;have:=HJ.out.ln;omega
       · have:=HJ.out.ln;omega
       rintro e w3 ⟨rfl,A3,ov3,ho,hq⟩;have ht:=hid ho;have hu:=hid (show Below G w1 w3 from(bdN (h9.out.mono h0.out) _).trans hq);clear ho hq)
     |fail)
    have hsz:=hN.out.2.2.1;have hS:hszs (done++[h8])=hszs done+Go.Own.Cx.hsz h8:=by simp[hszs]
    have h1:=HJ.out.sz;have h2:=HJ.out.ln;have H1:=h4.out.size;refine⟨⟨A3,k,c1-1,l',ov3,done++[h8],hL,ht.out,hP.out,?_,?_,?_,(HJ.out.low.trans (h4.out.mono hf)).trans hu.out,?_⟩,?_⟩
    · rw[List.append_assoc];exact HJ.out.all_
    · rw[hS,List.length_append,List.length_singleton];omega
    · rw[List.length_append,List.length_singleton];omega
    · have:=hu.out.size;have:=h0.out;omega
    · rw[lenK_of (ht.out.blk.cell 1),hE];omega
end Go.Proofs.YtkpppjhbmnfmkaaGreatDoor
end

section
set_option maxHeartbeats 1000000
set_option maxRecDepth 100000
namespace Go.Own.Cx
open Lib (hid)
open Go Go.RowKit Go.Own
structure Bar (X:Nat->Prop) (B:Nat) (w w':World):Prop where
 os:w'.os=w.os
 tape:w'.tape=w.tape
 output:w'.output=w.output
 size:w.heap.size<=w'.heap.size
 block:∀g,g<B->¬X g->w'.heap[g]?=w.heap[g]?
section
variable {X:Nat->Prop} {B B':Nat} {w w1 w2:World}
theorem Bar.refl (X:Nat->Prop) (B:Nat) (w:World):Bar X B w w:=⟨rfl,rfl,rfl,Nat.le_refl _,λ_ _ _=>rfl⟩
theorem Bar.trans (h:Bar X B w w1) (k:Bar X B w1 w2):Bar X B w w2:=⟨k.os.trans h.os,k.tape.trans h.tape,k.output.trans h.output,Nat.le_trans h.size k.size,λg hg hx=>(k.block g hg hx).trans (h.block g hg hx)⟩
theorem Bar.of (h:Below B w w1) (X:Nat->Prop):Bar X B w w1:=⟨h.os,h.tape,h.output,h.size,λg hg _=>h.block g hg⟩
theorem Bar.mono (h:Bar X B w w1) (hB:B'<=B):Bar X B' w w1:=⟨h.os,h.tape,h.output,h.size,λg hg=>h.block g (by omega)⟩
theorem Bar.setCell (h:Bar X B w w1) {p:Addr} (hp:B<=p.block\/X p.block) (v:Value):Bar X B w (w1.setCell p v):=
 ⟨h.os,h.tape,h.output,by simp[World.setCell];exact h.size,λg hg hx=>(Below.heap_setCell w1 p v g (λe=>by
   rcases hp with hp|hp
   · omega
   · exact hx (e▸hp))).trans (h.block g hg hx)⟩
theorem Bar.alloc (h:Bar X B w w1) (hB:B<=w1.heap.size) (o:Obj):Bar X B w (w1.alloc o):=h.trans (Bar.of ((Below.refl B w1).alloc hB o) X)
theorem Bar.drewN (h:Bar X B w w1) (n:Nat):Bar X B w (w1.drewN n):=h.trans (Bar.of (bdN (Below.refl B w1) n) X)
theorem Bar.drew (h:Bar X B w w1):Bar X B w w1.drew:=h.drewN 1
theorem Bar.grown (h:Bar X B w w1) {row:Option Nat} (hg:w1.grownBy w2 row) (hB:B<=w1.heap.size) (hr:∀g,row=some g->B<=g\/X g):Bar X B w w2:=
 ⟨hg.os.trans h.os,hg.tape.trans h.tape,hg.output.trans h.output,Nat.le_trans h.size hg.size,λg h0 hx=>(hg.block g (by omega) (λe=>by
   rcases hr g e.symm with h1|h1
   · omega
   · exact hx h1)).trans (h.block g h0 hx)⟩
theorem Bar.rd (h:Bar X B w w1) {n:Nat} {A:Option Addr} {l:List UInt8} (hr:Rd w B A n l) (hx:0<n->∀ad,A=some ad->¬X ad.block):Rd w1 B A n l:=
 ⟨hr.1,λhn=>by
   obtain⟨ad,e,hb,hc⟩:=hr.2 hn;exact⟨ad,e,hb,λj hj=>(World.cell?_of_block (a:=ad.add j) (by rw[add_block];exact h.block _ hb (hx hn ad e))).trans (hc j hj)⟩⟩
theorem Bar.blk (h:Bar X B w w1) {g:Nat} {t:TypeId} {cs:Array Value} (hb:Blk w g t cs) (hg:g<B) (hx:¬X g):Blk w1 g t cs:=(h.block g hg hx).trans hb
end
theorem hszs_hk (l:List Hd.HdrV):hszs l=Hk.hzs l:=rfl
def shrI (m:Int):List Hd.HdrV->List Hd.HdrV
 |[]=>[]
 |h::E=>if m<(hszs (h::E):Int)then shrI m E else h::E
theorem shrI_nat (m:Nat):∀E,shrI (m:Int) E=Hk.shrink m E
 |[]=>rfl
 |h::E=>by
  rw[shrI,Hk.shrink,shrI_nat m E,hszs_hk];by_cases hm:m<Hk.hzs (h::E)
  · rw[if_pos hm,if_pos (by omega)]
  · rw[if_neg hm,if_neg (by omega)]
theorem shrI_neg {m:Int} (hm:m<0):∀E,shrI m E=[]
 |[]=>rfl
 |h::E=>by rw[shrI,if_pos (by omega),shrI_neg hm E]
theorem hszs_cons' (h:Hd.HdrV) (E:List Hd.HdrV):hszs (h::E)=hsz h+hszs E:=by simp[hszs]
theorem hsz_32 (h:Hd.HdrV):32<=hsz h:=by unfold hsz;omega
theorem hszs_32:∀E:List Hd.HdrV,E.length*32<=hszs E
 |[]=>by simp[hszs]
 |h::E=>by rw[hszs_cons',List.length_cons];have:=hsz_32 h;have:=hszs_32 E;omega
end Go.Own.Cx
namespace Go.Proofs.YtkpppjhbmnfmkaaGreatDoor
open Lib (hid)
open Go.RowKit Go.Own Go.Own.Cx
attribute [local go_sem] Oper.semAt_some
structure RingC (cs:Array Value) (old:Nat) (E:List Hd.HdrV):Prop where
 size:cs.size=384
 lt:old<128
 le:E.length<=128
 at_:∀k h,E[k]?=some h->cs[(old+k) % 128*3]?=some (.string h.name)/\cs[(old+k) % 128*3+1]?=some (.string h.value)/\cs[(old+k) % 128*3+2]?=some (.bool h.never)
 any:∀j,j<128->∃h:Hd.HdrV,cs[j*3]?=some (.string h.name)/\cs[j*3+1]?=some (.string h.value)/\cs[j*3+2]?=some (.bool h.never)
def TabR (w:World) (g r:Nat) (E:List Hd.HdrV) (mo:Nat):Prop:=
 ∃(old:Nat) (cs:Array Value),Blk w g 179 #[.slice (some ⟨r,0,none⟩) 128 128,.int .i64 (old:Nat),.int .i64 (E.length:Nat),.int .i64 (hszs E:Nat),.int .i64 (mo:Nat)]/\Blk w r 63 cs/\RingC cs old E/\hszs E<=4096
theorem blk_ne {w:World} {g r:Nat} {t t':TypeId} {cs cs':Array Value} (h:Blk w g t cs) (k:Blk w r t' cs') (ht:t≠t'):g≠r:=λe=>by
 subst e;have:=h.symm.trans k;injection this with this
 injection this with _ this
 exact ht this
section
variable {w w':World} {g r mo:Nat} {E:List Hd.HdrV}
theorem TabR.ne (h:TabR w g r E mo):g≠r:=by
 obtain⟨old,cs,h1,h2,_⟩:=h;exact blk_ne h1 h2 (by decide)
theorem TabR.lt (h:TabR w g r E mo):g<w.heap.size/\r<w.heap.size:=by
 obtain⟨old,cs,h1,h2,_⟩:=h;exact⟨h1.lt,h2.lt⟩
theorem TabR.keep (h:TabR w g r E mo) (h1:w'.heap[g]?=w.heap[g]?) (h2:w'.heap[r]?=w.heap[r]?):TabR w' g r E mo:=by
 obtain⟨old,cs,k1,k2,k⟩:=h;exact⟨old,cs,h1.trans k1,h2.trans k2,k⟩
theorem TabR.below {B:Nat} (h:TabR w g r E mo) (hb:Below B w w') (hg:g<B) (hr:r<B):TabR w' g r E mo:=h.keep (hb.block g hg) (hb.block r hr)
theorem TabR.drewN (h:TabR w g r E mo) (n:Nat):TabR (w.drewN n) g r E mo:=h
theorem TabS.ring {own:Nat->Prop} {m:Nat} (h:TabS w own g E m):∃r,TabR w g r E m/\own g/\own r/\hszs E<=m/\m<=4096:=by
 obtain⟨r,old,cs,h1,h2,h3,h4,h5,h6,h7,h8,h9,h0⟩:=h;exact⟨r,⟨old,cs,h1,h2,⟨h5,h6,by have:=hszs_32 E;omega,h9,h0⟩,by omega⟩,h3,h4,h7,h8⟩
theorem TabR.tabS {own:Nat->Prop} (h:TabR w g r E mo) (h3:own g) (h4:own r) (h5:hszs E<=mo) (h6:mo<=4096):TabS w own g E mo:=by
 obtain⟨old,cs,h1,h2,h,_⟩:=h;exact⟨r,old,cs,h1,h2,h3,h4,h.size,h.lt,h5,h6,h.at_,h.any⟩
end
theorem tat_any (w:World) (g r old len i:Nat) (sv mv:Value) (hb:Blk w g 179 #[.slice (some ⟨r,0,none⟩) 128 128,.int .i64 (old:Nat),.int .i64 (len:Nat),sv,mv]) (ho:old<128) (hl:len<=128) (hi:i<len):
 Calls Tryz.prog 172 #[.pointer (some ⟨g,0,none⟩),.int .i64 (i:Nat)] w λe w'=>e= .returned (.int .i64 ((old+len-1-i) % 128:Nat))/\∃n,w'=w.drewN n:=by
 have c0:w.cell? ⟨g,0,none⟩=some (.slice (some ⟨r,0,none⟩) 128 128):=hb.cell 0;have c1:w.cell? ⟨g,1,none⟩=some (.int .i64 (old:Nat)):=hb.cell 1;have c2:w.cell? ⟨g,2,none⟩=some (.int .i64 (len:Nat)):=hb.cell 2;have h0:=hb.lt;have e1:wrap64 ((old:Int)+len)=(old:Int)+len:=by unfold wrap64;omega
 have e2:wrap64 ((old:Int)+len-1)=(old:Int)+len-1:=by unfold wrap64;omega
 have e3:wrap64 ((old:Int)+len-1-i)=((old+len-1-i:Nat):Int):=by unfold wrap64;omega
 have e4:((old+len-1-i:Nat):Int).tmod 128=((old+len-1-i) % 128:Nat):=rfl;have HE:=hid (And.intro (And.intro e1 e2) (And.intro e3 e4));clear hb ho hl hi e1 e2 e3 e4;go_enter Tryz.func172,Tryz.ntmps172;go_wp2_with fail;go_quiet (fail);go_wp2;go_ret;exact⟨by simp[HE.out.1.1,HE.out.1.2,HE.out.2.1,HE.out.2.2],_,rfl⟩
end Go.Proofs.YtkpppjhbmnfmkaaGreatDoor
end

section
set_option maxHeartbeats 8000000
set_option maxRecDepth 100000
namespace Go.Proofs.YtkpppjhbmnfmkaaGreatDoor
open Lib (hid)
open Go.RowKit Go.Own Go.Own.Cx
attribute [local go_sem] Oper.semAt_some
theorem hsize_le {h:Hd.HdrV} {E:List Hd.HdrV} {m:Nat} (hh:h∈E) (hm:hszs E<=m):h.name.size+h.value.size+32<=m:=by
 induction E with
 |nil=>cases hh
 |cons x E ih=>
  rw[hszs_cons']at hm;rcases List.mem_cons.1 hh with rfl|hh
  · unfold hsz at hm;omega
  · exact ih hh (by omega)
theorem RingC.drop {cs:Array Value} {old:Nat} {h:Hd.HdrV} {E:List Hd.HdrV} (hr:RingC cs old (h::E)):RingC (((cs.setIfInBounds (old*3) (.string ⟨#[]⟩)).setIfInBounds (old*3+1) (.string ⟨#[]⟩)).setIfInBounds (old*3+2) (.bool false)) ((old+1) % 128) E:=by
 have h4:=hr.lt;have h3:=hr.le;rw[List.length_cons]at h3;have key:∀j,j<128->j≠old->∀t,t<3->(((cs.setIfInBounds (old*3) (.string ⟨#[]⟩)).setIfInBounds (old*3+1) (.string ⟨#[]⟩)).setIfInBounds (old*3+2) (.bool false))[j*3+t]?=cs[j*3+t]?:=λj hj hne t ht=>by
  rw[Array.getElem?_setIfInBounds_ne (by omega),Array.getElem?_setIfInBounds_ne (by omega),Array.getElem?_setIfInBounds_ne (by omega)]
 refine⟨by simp[hr.size],Nat.mod_lt _ (by omega),by omega,λk x hk=>?_,λj hj=>?_⟩
 · have h5:=(List.getElem?_eq_some_iff.1 hk).1
   have e:((old+1) % 128+k) % 128=(old+(k+1)) % 128:=by omega
   have hne:(old+(k+1)) % 128≠old:=by omega
   have h1:=hr.at_ (k+1) x (by rw[List.getElem?_cons_succ];exact hk);rw[e];have k0:=key _ (Nat.mod_lt (old+(k+1)) (by omega)) hne 0 (by omega);have k1:=key _ (Nat.mod_lt (old+(k+1)) (by omega)) hne 1 (by omega);have k2:=key _ (Nat.mod_lt (old+(k+1)) (by omega)) hne 2 (by omega);rw[Nat.add_zero]at k0;exact⟨k0.trans h1.1,k1.trans h1.2.1,k2.trans h1.2.2⟩
 · by_cases hne:j=old
   · subst hne
     have hs:=hr.size;refine⟨⟨⟨#[]⟩,⟨#[]⟩,false⟩,?_,?_,?_⟩
     · rw[Array.getElem?_setIfInBounds_ne (by omega),Array.getElem?_setIfInBounds_ne (by omega),Array.getElem?_setIfInBounds_self_of_lt (by omega)]
     · rw[Array.getElem?_setIfInBounds_ne (by omega),Array.getElem?_setIfInBounds_self_of_lt (by simp;omega)]
     · rw[Array.getElem?_setIfInBounds_self_of_lt (by simp;omega)]
   · obtain⟨x,h0,h1,h2⟩:=hr.any j hj
     have k0:=key j hj hne 0 (by omega);rw[Nat.add_zero]at k0;exact⟨x,k0.trans h0,(key j hj hne 1 (by omega)).trans h1,(key j hj hne 2 (by omega)).trans h2⟩
def lenT (w:World) (g:Nat):Nat:=match w.cell? ⟨g,2,none⟩with|some (.int _ n)=>n.toNat|_=>0
theorem lenT_of {w:World} {g n:Nat} (h:w.cell? ⟨g,2,none⟩=some (.int .i64 (n:Nat))):lenT w g=n:=by rw[lenT,h];rfl
def ShR (w:World) (g r:Nat) (m:Int) (E0:List Hd.HdrV) (mo:Nat) (wr:World):Prop:=∃E,TabR wr g r E mo/\shrI m E=shrI m E0/\Bar (λj=>j=g\/j=r) w.heap.size w wr
theorem shrink_any (w:World) (g r:Nat) (E:List Hd.HdrV) (mo:Nat) (m:Int) (h:TabR w g r E mo) (hm:(Lit.int .i64 m).wf=true):
 Calls Tryz.prog 171 #[.pointer (some ⟨g,0,none⟩),.int .i64 m] w λe w'=>e= .returned (.tuple #[])/\TabR w' g r (shrI m E) mo/\Bar (λj=>j=g\/j=r) w.heap.size w w':=by
 have HR:=hid (show ShR w g r m E mo w from⟨E,h,rfl,Bar.refl _ _ _⟩);clear h;go_enter Tryz.func171,Tryz.ntmps171;go_wp2_with fail;go_loopw [4] (λ_ wr=>Hid (ShR w g r m E mo wr)) (λ_ wr=>lenT wr g)
 case atStart=>exact HR
 case round=>
  obtain⟨E1,ht,hs,hb⟩:=hrel.out;have HT:=hid ht;have HS:=hid hs;have HB:=hid hb;obtain⟨old,cs,h3,h4,h2,hsz⟩:=ht;have g0:wr.cell? ⟨g,0,none⟩=some (.slice (some ⟨r,0,none⟩) 128 128):=h3.cell 0;have g1:wr.cell? ⟨g,1,none⟩=some (.int .i64 (old:Nat)):=h3.cell 1;have g2:wr.cell? ⟨g,2,none⟩=some (.int .i64 (E1.length:Nat)):=h3.cell 2;have g3:wr.cell? ⟨g,3,none⟩=some (.int .i64 (hszs E1:Nat)):=h3.cell 3;have h7:=h3.lt;have hD:lenT wr g=E1.length:=lenT_of g2;have hN:=hid hD;clear hrel hs hb hD;by_cases h0:E1=[]\/¬m<(hszs E1:Int)
  · have hE:shrI m E=E1:=by
     rw[<-HS.out];rcases h0 with rfl|h1
     · rfl
     · cases E1 with
       |nil=>rfl
       |cons x E1=>rw[shrI,if_neg h1]
    have HE:=hid hE;clear hE;rcases h0 with rfl|h1
    · go_wp2_with fail
      go_end0;rw[HE.out];exact⟨rfl,HT.out,HB.out⟩
    · have H4:decide (m<((hszs E1:Nat):Int))=false:=by simpa using h1
      go_wp2_with fail;all_goals
       go_end0;rw[HE.out];exact⟨rfl,HT.out,HB.out⟩
  · cases E1 with
    |nil=>exact absurd (.inl rfl) h0
    |cons x E1=>
     have hl:m<((hszs (x::E1):Nat):Int):=Classical.not_not.1 λh=>h0 (.inr h);have H2:decide (m<((hszs (x::E1):Nat):Int))=true:=by simpa using hl
     have H5:(0:Int)<(((x::E1).length:Nat):Int):=by simp
     have h5:=h2.at_ 0 x rfl;have hF:=h2.lt;rw[Nat.add_zero,Nat.mod_eq_of_lt hF]at h5;have hO:=hsize_le (List.mem_cons_self (a:=x) (l:=E1)) hsz;have r0:wr.cell? ⟨r,old*3,none⟩=some (.string x.name):=(h4.cell _).trans h5.1;have r1:wr.cell? ⟨r,old*3+1,none⟩=some (.string x.value):=(h4.cell _).trans h5.2.1;have r2:wr.cell? ⟨r,old*3+2,none⟩=some (.bool x.never):=(h4.cell _).trans h5.2.2;have h9:=hid h4;have hG:=hid h3;have hj:=hid h2;have hP:=hid (λW (hb:Below wr.heap.size wr W)=>(show(W.cell? ⟨g,3,none⟩=some (.int .i64 (hszs (x::E1):Nat))/\W.cell? ⟨g,0,none⟩=some (.slice (some ⟨r,0,none⟩) 128 128)/\W.cell? ⟨g,1,none⟩=some (.int .i64 (old:Nat)))/\W.cell? ⟨r,old*3,none⟩=some (.string x.name)/\W.cell? ⟨r,old*3+1,none⟩=some (.string x.value)/\W.cell? ⟨r,old*3+2,none⟩=some (.bool x.never)from
      ⟨⟨(h3.below hb h3.lt).cell 3,(h3.below hb h3.lt).cell 0,(h3.below hb h3.lt).cell 1⟩,((h4.below hb h4.lt).cell _).trans h5.1,((h4.below hb h4.lt).cell _).trans h5.2.1,((h4.below hb h4.lt).cell _).trans h5.2.2⟩))
     have hn:=hid (hP.out wr (Below.refl _ _));have he:IntKind.i64.wrap (((hszs (x::E1):Nat):Int)-((x.name.size:Int)+(x.value.size:Int)+32))=((hszs E1:Nat):Int):=by
      rw[IntKind.wrap_i64];have:hszs (x::E1)=(x.name.size+x.value.size+32)+hszs E1:=hszs_cons' x E1;rw[this];omega
     have H3:(old:Int)<128:=by omega
     have hH:=hid (show x.name.size<=1000000/\x.value.size<=1000000 from⟨by omega,by omega⟩);have hQ:=hid (show shrI m (x::E1)=shrI m E1 from by rw[shrI,if_pos hl]);have hI:=hid (show hszs E1<=4096 by have:=hszs_cons' x E1;omega);clear h2 h3 h4 h5 h0 hl hsz hO hF;generalize hszs (x::E1)=s0 at*
     obtain⟨s1,ho⟩:∃s1,hszs E1=s1:=⟨_,rfl⟩;rw[ho]at he hI;have hJ:=hid ho;clear ho;go_upto_region 1 with fail;have f3:=hG.out.frozen 3;have hq:=h9.out.lt;have hC:=hid (λW=>hsize_any x.name x.value x.never W hH.out.1 hH.out.2);go_cut [17] (λv wx=>Hid (wx=((wr.setCell ⟨g,3,none⟩ (.int .i64 (s1:Nat))).alloc (.cells #[.string x.name,.string x.value,.bool x.never] 63)).drew))
     case first=>
      go_region_with (first
       |(go_at_call 135
         with_reducible refine Calls.mono (hC.out _) ?_
         rintro e w1 ⟨rfl,hw⟩;subst w1)
       |fail)
      all_goals
       go_wp2_with fail;go_meet;exact hid (by simp only[he])
     case rest=>
      have hW:=hcut.out;have hf:Blk wc g 179 #[.slice (some ⟨r,0,none⟩) 128 128,.int .i64 (old:Nat),.int .i64 ((x::E1).length:Nat),.int .i64 (s1:Nat),.int .i64 (mo:Nat)]:=by
       rw[hW];have h1:=(hG.out.put 3 (.int .i64 (s1:Nat))).alloc (.cells #[.string x.name,.string x.value,.bool x.never] 63);simp only[List.setIfInBounds_toArray,List.set_cons_zero,List.set_cons_succ]at h1;exact h1
      have hh:Blk wc r 63 cs:=by
       rw[hW];exact(h9.out.far (p:=⟨g,3,none⟩) (λe=>HT.out.ne e.symm) _).alloc _
      have hK:Bar (λj=>j=g\/j=r) w.heap.size w wc:=by
       rw[hW];exact((HB.out.setCell (p:=⟨g,3,none⟩) (.inr (.inl rfl)) _).alloc (by have:=HB.out.size;simp[World.setCell];omega) _).drew
      have hR:=hid hK;have hk:=hid hf;have h6:=hid hh;clear hW hcut hK g0 g1 g2 g3 r0 r1 r2 f3 hq h7 hf hh;have g0:wc.cell? ⟨g,0,none⟩=some (.slice (some ⟨r,0,none⟩) 128 128):=hk.out.cell 0;have g1:wc.cell? ⟨g,1,none⟩=some (.int .i64 (old:Nat)):=hk.out.cell 1;have r0:wc.cell? ⟨r,old*3,none⟩=some (.string x.name):=(h6.out.cell _).trans ((h9.out.cell _).symm.trans hn.out.2.1);have r1:wc.cell? ⟨r,old*3+1,none⟩=some (.string x.value):=(h6.out.cell _).trans ((h9.out.cell _).symm.trans hn.out.2.2.1);have r2:wc.cell? ⟨r,old*3+2,none⟩=some (.bool x.never):=(h6.out.cell _).trans ((h9.out.cell _).symm.trans hn.out.2.2.2);have rf0:=h6.out.frozen (old*3);have rf1:=h6.out.frozen (old*3+1);have rf2:=h6.out.frozen (old*3+2);have h7:=hk.out.lt;have hq:=h6.out.lt;go_upto_region 2 with fail;go_region;have hi:=((h6.out.put (old*3) (.string ⟨#[]⟩)).put (old*3+1) (.string ⟨#[]⟩)).put (old*3+2) (.bool false);have hS:=hid (show Blk ((((wc.setCell ⟨r,old*3,none⟩ (.string ⟨#[]⟩)).setCell ⟨r,old*3+1,none⟩ (.string ⟨#[]⟩)).setCell ⟨r,old*3+2,none⟩ (.bool false)).drew) r 63 _ from hi);have hc:=hid (show Blk ((((wc.setCell ⟨r,old*3,none⟩ (.string ⟨#[]⟩)).setCell ⟨r,old*3+1,none⟩ (.string ⟨#[]⟩)).setCell ⟨r,old*3+2,none⟩ (.bool false)).drew) g 179 _ from((hk.out.far (p:=⟨r,old*3,none⟩) HT.out.ne _).far (p:=⟨r,old*3+1,none⟩) HT.out.ne _).far (p:=⟨r,old*3+2,none⟩) HT.out.ne _);have hT:=hid (((hR.out.setCell (p:=⟨r,old*3,none⟩) (.inr (.inr rfl)) (.string ⟨#[]⟩)).setCell (p:=⟨r,old*3+1,none⟩) (.inr (.inr rfl)) (.string ⟨#[]⟩)).setCell (p:=⟨r,old*3+2,none⟩) (.inr (.inr rfl)) (.bool false)).drew;clear hi g0 g1 r0 r1 r2 rf0 rf1 rf2 h7 hq;generalize ((((wc.setCell ⟨r,old*3,none⟩ (.string ⟨#[]⟩)).setCell ⟨r,old*3+1,none⟩ (.string ⟨#[]⟩)).setCell ⟨r,old*3+2,none⟩ (.bool false)).drew)=W6 at*
      have g0:W6.cell? ⟨g,0,none⟩=some (.slice (some ⟨r,0,none⟩) 128 128):=hc.out.cell 0;have g1:W6.cell? ⟨g,1,none⟩=some (.int .i64 (old:Nat)):=hc.out.cell 1;have gf1:=hc.out.frozen 1;have h7:=hc.out.lt;have hU:IntKind.i64.wrap ((old:Int)+1)=((old+1:Nat):Int):=by have:=hj.out.lt;rw[IntKind.wrap_i64];omega
      have hV:wrap64 ((old:Int)+1)=((old+1:Nat):Int):=by have:=hj.out.lt;unfold wrap64;omega
      have hX:((old:Int)+1).tmod 128=(((old+1) % 128:Nat):Int):=rfl;go_wp2_with fail;go_region;obtain⟨o2,hu⟩:∃o2,(old+1) % 128=o2:=⟨_,rfl⟩;have hY:=hid hu;have e7:((old:Int)+1) % 128=(o2:Int):=by rw[<-hu];rfl
      rw[e7];have h8:=hid (show Blk ((W6.setCell ⟨g,1,none⟩ (.int .i64 (o2:Nat))).drew) g 179 _ from hc.out.put 1 (.int .i64 (o2:Nat)));have hZ:=hid (show Blk ((W6.setCell ⟨g,1,none⟩ (.int .i64 (o2:Nat))).drew) r 63 _ from hS.out.far (p:=⟨g,1,none⟩) (λe=>HT.out.ne e.symm) _);have H0:=hid (hT.out.setCell (p:=⟨g,1,none⟩) (.inr (.inl rfl)) (.int .i64 (o2:Nat))).drew;simp only[List.setIfInBounds_toArray,List.set_cons_zero,List.set_cons_succ]at h8;clear g0 g1 gf1 h7 hU hV hX e7 hu;generalize (W6.setCell ⟨g,1,none⟩ (.int .i64 (o2:Nat))).drew=W7 at*
      obtain⟨ln,hd⟩:∃ln,E1.length=ln:=⟨_,rfl⟩;have g2:W7.cell? ⟨g,2,none⟩=some (.int .i64 ((x::E1).length:Nat)):=h8.out.cell 2;rw[show(x::E1).length=ln+1 by rw[<-hd];rfl]at g2;have gf2:=h8.out.frozen 2;have h7:=h8.out.lt;have hA:=hj.out.le;have H1:=w64_pred ln (by rw[<-hd];simp at hA;omega);have H7:=w64_self ln (by rw[<-hd];simp at hA;omega);have H8:wrap64 (((ln+1:Nat):Int)-1)=(ln:Int):=H1;have hL:=hid hd;clear hA hd;go_wp2_with fail;go_roundw
      case rel=>
       refine hid ⟨E1,⟨o2,_,?_,hZ.out.far (p:=⟨g,2,none⟩) (λe=>HT.out.ne e.symm) _,by rw[<-hY.out];exact hj.out.drop,?_⟩,?_,H0.out.setCell (p:=⟨g,2,none⟩) (.inr (.inl rfl)) _⟩
       · have h1:=h8.out.put 2 (.int .i64 (ln:Nat))
         simp only[List.setIfInBounds_toArray,List.set_cons_zero,List.set_cons_succ]at h1;rw[hL.out,hJ.out];exact h1
       · rw[hJ.out];exact hI.out
       · exact hQ.out.symm.trans HS.out
      case measure=>
       rw[hN.out];have h1:=lenT_of ((h8.out.put 2 (.int .i64 (ln:Nat))).cell 2);rw[h1,List.length_cons,hL.out];omega
end Go.Proofs.YtkpppjhbmnfmkaaGreatDoor
end
