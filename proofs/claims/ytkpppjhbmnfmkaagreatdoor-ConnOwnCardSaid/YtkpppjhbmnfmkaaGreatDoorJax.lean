/-
  
  
  
  
  
-/
import Derived.Test.YtkpppjhbmnfmkaaGreatDoorJaw
import Derived.Test.YtkpppjhbmnfmkaaGreatDoorJab
import Derived.StillTailTactics
import Derived.Recover
import Derived.Defers
set_option linter.unusedSimpArgs false
set_option linter.unusedVariables false
section
set_option maxHeartbeats 4000000
set_option maxRecDepth 100000
namespace Go.Proofs.YtkpppjhbmnfmkaaGreatDoor
open Lib (hid)
open Go.RowKit Go.Own Go.Own.Cx
attribute [local go_sem] Oper.semAt_some
def TelPost (B g d tb r:Nat) (A:Option Addr) (n c:Nat) (l:List UInt8) (ov:Value) (out:List Hd.HdrV) (t:Hk.TM) (hd:Hd.HdrV) (w:World) (e:Ending) (w':World):Prop:=
 (hszs out+hsz hd<=16384/\e= .returned (.tuple #[])/\∃ov',BR w' B g d tb r A n c l ov' (out++[hd]) t/\Bar (λj=>j=g\/ov.ownBlock=some j) w.heap.size w w')\/(16384<hszs out+hsz hd/\FltPost B d tb r w e w')
theorem BR.told {w W0 WA w8:World} {B g d tb r n c:Nat} {A:Option Addr} {l:List UInt8} {ov v8:Value} {out:List Hd.HdrV} {t:Hk.TM} {hd:Hd.HdrV} (h:BR W0 B g d tb r A n c l ov out t) (h0:Below w.heap.size w W0) {s2:Nat} (hs2:hszs (out++[hd])=s2)
 (h3:Blk WA g 255 #[.pointer (some ⟨d,0,none⟩),.slice A n c,ov,.int .i64 (s2:Nat)]) (h2:Bar (λj=>j=g) W0.heap.size W0 WA) (h5:Cm.Ew hdrC 63 3 w8 B v8 (out++[hd])) (hg:WA.grownBy w8 ov.ownBlock) (hv:v8.ownBlock=ov.ownBlock\/v8.ownBlock=some WA.heap.size):
 BR (w8.setCell ⟨g,2,none⟩ v8) B g d tb r A n c l v8 (out++[hd]) t/\Bar (λj=>j=g\/ov.ownBlock=some j) w.heap.size w (w8.setCell ⟨g,2,none⟩ v8):=by
 have h9:=h3.lt;have hB:=h.room.2.2.2;have h7:Below B W0 WA:=⟨h2.os,h2.tape,h2.output,h2.size,λj hj=>h2.block j (by omega) (by have:=h.hg;omega)⟩;have h8:Below B W0 w8:=h7.grown hg (Nat.le_trans hB h2.size) λk e=>(h.out_.lt k e).1;have h4:Below B W0 (w8.setCell ⟨g,2,none⟩ v8):=h8.setCell (p:=⟨g,2,none⟩) h.hg _;have hne:some g≠ov.ownBlock:=λe=>h.ne g e.symm rfl;have h6:∀j,v8.ownBlock=some j->j≠g:=λj e=>by
  rcases hv with hv|hv
  · exact h.ne j (hv▸e)
  · rw[hv]at e;injection e with e;omega
 refine⟨⟨?_,h.hg,h.le,h.few,h.rd_.below h4,h.far,h.dt.below h4 h.lt,h.lt,h.nd,⟨h.room.1,h.room.2.1,h.room.2.2.1,Nat.le_trans hB h4.size⟩,h5.grown (grown_setCell (World.grownBy.refl w8 (some g)) 2 _) (.inr λe=>h6 g e rfl),h6,h.env.below h4 h.room.1⟩,?_⟩
 · have h1:=(h3.grown hg hne).put 2 v8
   simp only[List.setIfInBounds_toArray,List.set_cons_zero,List.set_cons_succ]at h1;rw[hs2];exact h1
 · have b0:Bar (λj=>j=g\/ov.ownBlock=some j) w.heap.size w W0:=Bar.of h0 _
   have b1:Bar (λj=>j=g\/ov.ownBlock=some j) w.heap.size w WA:=b0.trans ⟨h2.os,h2.tape,h2.output,h2.size,λj hj hx=>h2.block j (Nat.lt_of_lt_of_le hj h0.size) (λe=>hx (.inl e))⟩;exact(b1.grown hg b1.size (λj e=>.inr (.inr e))).setCell (p:=⟨g,2,none⟩) (.inr (.inl rfl)) _
theorem btell_any (w:World) (B g d tb r:Nat) (A:Option Addr) (n c:Nat) (l:List UInt8) (ov:Value) (out:List Hd.HdrV) (t:Hk.TM) (hd:Hd.HdrV) (h:BR w B g d tb r A n c l ov out t) (h1:hd.name.size<=200000) (h2:hd.value.size<=200000) (h3:hszs out<=16384):
 Calls Tryz.prog 236 #[.pointer (some ⟨g,0,none⟩),.agg (hdrC hd)] w (TelPost B g d tb r A n c l ov out t hd w):=by
 have h4:out.length<=1000:=by have:=hszs_32 out;omega
 have hB:=h.room.2.2.2;have HX:=hid (Blk.new w 63 (hdrC hd));have hc:=hid ((Below.refl w.heap.size w).alloc (Nat.le_refl _) (.cells (hdrC hd) 63));have HK:=hid (h.below hc.out);obtain⟨A0,c0,h8,_,_⟩:=h.out_.form;have HZ:=hid (show(w.alloc (.cells (hdrC hd) 63)).heap.size=w.heap.size+1 by simp);have hI:=h.blk.lt;obtain⟨hn,hv,hne⟩:=hd;simp only at h1 h2;have HS:=hid (λW=>hsize_any hn hv hne W (by omega) (by omega));have hl:=hid (show hszs (out++[⟨hn,hv,hne⟩])=hszs out+(hn.size+hv.size+32)by simp[hszs,hsz]);clear h;simp only[hdrC]at HX hc HK HZ ⊢;have hJ:IntKind.i64.wrap ((hszs out:Int)+((hn.size+hv.size+32:Nat):Int))=((hszs out+(hn.size+hv.size+32):Nat):Int):=by rw[IntKind.wrap_i64];omega
 have g3:=HK.out.blk.cell 3;simp only[List.getElem?_toArray,List.getElem?_cons_zero,List.getElem?_cons_succ]at g3;have HG:=hid (HK.out.blk.put 3 (.int .i64 ((hszs out+(hn.size+hv.size+32):Nat):Int)));simp only[List.setIfInBounds_toArray,List.set_cons_zero,List.set_cons_succ]at HG;generalize hm:hszs out+(hn.size+hv.size+32)=s2 at*
 generalize ho:hszs out=so at*
 generalize hi:hn.size+hv.size+32=sh at*
 have h9:=hid (show hszs out+hsz ⟨hn,hv,hne⟩=s2 by rw[ho,show hsz ⟨hn,hv,hne⟩=sh from hi];exact hm);clear hi;go_enter Tryz.func236,Tryz.ntmps236;go_upto_region 1 with fail;generalize w.alloc (.cells #[.string hn,.string hv,.bool hne] 63)=W0 at*
 have gf:=HK.out.blk.frozen 3;have x0:=HX.out.cell 0;have x1:=HX.out.cell 1;have x2:=HX.out.cell 2;simp only[List.getElem?_toArray,List.getElem?_cons_zero,List.getElem?_cons_succ]at x0 x1 x2;have xl:=HX.out.lt;have gl:=HK.out.blk.lt;have h0:=hid (show Blk ((W0.setCell ⟨g,3,none⟩ (.int .i64 (s2:Nat))).alloc (.cells #[.string hn,.string hv,.bool hne] 63)).drew g 255 #[.pointer (some ⟨d,0,none⟩),.slice A n c,ov,.int .i64 (s2:Nat)]/\
  Bar (λj=>j=g) W0.heap.size W0 ((W0.setCell ⟨g,3,none⟩ (.int .i64 (s2:Nat))).alloc (.cells #[.string hn,.string hv,.bool hne] 63)).drew/\
  Cm.Ew hdrC 63 3 ((W0.setCell ⟨g,3,none⟩ (.int .i64 (s2:Nat))).alloc (.cells #[.string hn,.string hv,.bool hne] 63)).drew B ov out/\
  Blk ((W0.setCell ⟨g,3,none⟩ (.int .i64 (s2:Nat))).alloc (.cells #[.string hn,.string hv,.bool hne] 63)).drew w.heap.size 63 #[.string hn,.string hv,.bool hne]from
  ⟨HG.out.alloc _,(((Bar.refl (λj=>j=g) W0.heap.size W0).setCell (p:=⟨g,3,none⟩) (.inr rfl) _).alloc (by simp[World.setCell]) _).drew,
    (HK.out.out_.grown (grown_setCell (World.grownBy.refl W0 (some g)) 3 _) (.inr λe=>HK.out.ne g e rfl)).grown (grown_drewN (World.grownBy_alloc _ _ none) 1) (Cm.own_or _),(HX.out.far (p:=⟨g,3,none⟩) (by simp;omega) _).alloc _⟩)
 go_region_with (first
  |(go_at_call 135
    with_reducible refine Calls.mono (HS.out _) ?_
    rintro e w1 ⟨rfl,hw⟩;subst w1)
  |fail)
 all_goals
  generalize ((W0.setCell ⟨g,3,none⟩ (.int .i64 (s2:Nat))).alloc (.cells #[.string hn,.string hv,.bool hne] 63)).drew=W2 at*
  have c3:W2.cell? ⟨g,3,none⟩=some (.int .i64 (s2:Nat)):=h0.out.1.cell 3;have c2:W2.cell? ⟨g,2,none⟩=some ov:=h0.out.1.cell 2;rw[h8]at c2;have z0:=h0.out.2.2.2.cell 0;have z1:=h0.out.2.2.2.cell 1;have z2:=h0.out.2.2.2.cell 2;simp only[List.getElem?_toArray,List.getElem?_cons_zero,List.getElem?_cons_succ]at z0 z1 z2;have zl:=h0.out.2.2.2.lt;have hK:=h0.out.1.lt;clear g3 gf x0 x1 x2 xl gl;by_cases h5:16384<s2
  · have hq:(16384:Int)<(s2:Int):=Int.ofNat_lt.2 h5
    have he:Below B W0 W2:=⟨h0.out.2.1.os,h0.out.2.1.tape,h0.out.2.1.output,h0.out.2.1.size,λj hj=>h0.out.2.1.block j (Nat.lt_of_lt_of_le hj HK.out.room.2.2.2) (by have:=HK.out.hg;omega)⟩;have ht:=hid (HK.out.dt.below he HK.out.lt);have hu:=hid he;obtain⟨a,ha⟩:=(HK.out.env.below he HK.out.room.1).list;have hf:=hid h5;clear he h5 z0 z1 z2 c2;go_upto_region 3 with fail;go_wp2_with (first
     |(go_at_call 242
       refine Calls.mono (hgive_err a _) ?_;rintro e w5 ⟨rfl,hw⟩;subst w5)
     |fail)
    exact⟨rfl,.inr ⟨by rw[h9.out];exact hf.out,⟨a,rfl⟩,⟨t,ht.out⟩,(Bar.below hc.out hB _).trans (Bar.of hu.out _)⟩⟩
  have hq:¬(16384:Int)<(s2:Int):=λh=>h5 (Int.ofNat_lt.1 h);have hf:=hid h5;clear h5;have hA:=hid (show Cm.Ew hdrC 63 3 (W2.drew.alloc (.cells #[.string hn,.string hv,.bool hne] 63)) B (.slice A0 out.length c0) out from h8▸h0.out.2.2.1.grown (show W2.grownBy _ none from⟨rfl,rfl,rfl,by simp,λk hk _=>Below.heap_alloc W2.drew _ k hk⟩) (Cm.own_or _));have hC:Hid (Cm.RS hdrC 3 (W2.drew.alloc (.cells #[.string hn,.string hv,.bool hne] 63)) (W2.drew.alloc (.cells #[.string hn,.string hv,.bool hne] 63)).heap.size (some ⟨W2.heap.size,0,none⟩) 1 [⟨hn,hv,hne⟩]):=hid (by
   have h:=(Cm.Ew.lit (k:=3) hdrC 63 (λ_=>rfl) W2.drew [⟨hn,hv,hne⟩] (by simp)).rs (λ_=>rfl) (by omega);have e1:(Cm.flat hdrC [⟨hn,hv,hne⟩]).toArray= #[.string hn,.string hv,.bool hne]:=by simp[Cm.flat,hdrC]
   rw[e1]at h;exact h)
  have hD:=hid (show out.length+1<=1000000 by omega);have hE:=hid (show B<=(W2.drew.alloc (.cells #[.string hn,.string hv,.bool hne] 63)).heap.size by have:=h0.out.2.1.size;simp;omega);go_wp2_with fail;go_region_law
   ((refine Cm.step_app_e elH _ (by rfl) (.tmp 24) (.tmp 26) (by rfl) B (.slice A0 out.length c0) out (by rfl) hA.out _ (some ⟨W2.heap.size,0,none⟩) 1 1 [⟨hn,hv,hne⟩] (by rfl) hC.out hD.out hE.out ?_
     intro A8 c8 w8 h6 h7 hb;have hF:=hid h7;have hG:=hid h6;have hH:=hid hb;have hh:=((show Blk W2.drew g 255 #[.pointer (some ⟨d,0,none⟩),.slice A n c,ov,.int .i64 (s2:Nat)]from h0.out.1).alloc (.cells #[.string hn,.string hv,.bool hne] 63)).grown h7 (λe=>HK.out.ne g (h8▸e.symm) rfl);have hL:w8.frozen? ⟨g,2,none⟩=false:=hh.frozen 2;have hM:w8.cell? ⟨g,2,none⟩=some ov:=hh.cell 2;clear hh h6 h7 hb))
 all_goals
  go_wp2;go_end0;have hT:=HK.out.told hc.out hl.out (WA:=W2.drew.alloc (.cells #[.string hn,.string hv,.bool hne] 63)) ((show Blk W2.drew g 255 #[.pointer (some ⟨d,0,none⟩),.slice A n c,ov,.int .i64 (s2:Nat)]from h0.out.1).alloc _) ((h0.out.2.1.drewN 1).alloc (by have:=h0.out.2.1.size;show W0.heap.size<=W2.heap.size;omega) _) hG.out (h8▸hF.out) (h8▸hH.out);exact .inl ⟨by rw[h9.out];exact Nat.not_lt.1 hf.out,rfl,_,hT.1,h8▸hT.2⟩
end Go.Proofs.YtkpppjhbmnfmkaaGreatDoor
end

section
set_option maxHeartbeats 4000000
set_option maxRecDepth 100000
namespace Go.Proofs.YtkpppjhbmnfmkaaGreatDoor
open Lib (hid)
open Go.RowKit Go.Own Go.Own.Cx
attribute [local go_sem] Oper.semAt_some
def stepT (t:Hk.TM) (out:List Hd.HdrV) (l:List UInt8):Option (List Hd.HdrV×List UInt8×Hk.TM):=
 match Hk.stepP t (!out.isEmpty) l with
 |none=>none
 |some (none,r,t')=>some (out,r,t')
 |some (some h,r,t')=>if 16384<hszs out+hsz h then none else some (out++[h],r,t')
def KndPost (B g d tb r:Nat) (out:List Hd.HdrV) (t:Hk.TM) (l:List UInt8) (w:World) (e:Ending) (w':World):Prop:=
 (∃out' rest t' A' n' c' ov',stepT t out l=some (out',rest,t')/\e= .returned (.tuple #[])/\BR w' B g d tb r A' n' c' rest ov' out' t'/\Bar (TX tb r) B w w'/\hszs out'<=16384)\/(stepT t out l=none/\FltPost B d tb r w e w')
section
variable {w w':World} {B g d tb r n c:Nat} {A:Option Addr} {l:List UInt8} {ov:Value} {out:List Hd.HdrV} {t:Hk.TM}
theorem BR.turn (h:BR w B g d tb r A n c l ov out t) {E':List Hd.HdrV} {m':Nat} (ht:TabR w' tb r E' m') (hb:Bar (TX tb r) w.heap.size w w') (hs:hszs E'<=m') (hm:m'<=4096):BR w' B g d tb r A n c l ov out ⟨E',m'⟩:=by
 have hB:=h.room.2.2.2;have h2:¬TX tb r g:=λhx=>by have:=h.hg;have:=h.lt;rcases hx with hx|hx<;>omega
 have h3:∀j,ov.ownBlock=some j->¬TX tb r j:=λj e hx=>by have:=(h.out_.lt j e).1;have:=h.lt;rcases hx with hx|hx<;>omega
 refine⟨hb.blk h.blk h.blk.lt h2,h.hg,h.le,h.few,(hb.mono hB).rd h.rd_ h.far,h.far,⟨hb.blk h.dt.dec (by have:=h.lt;omega) h.nd,ht,hs,hm⟩,h.lt,h.nd,⟨h.room.1,h.room.2.1,h.room.2.2.1,Nat.le_trans hB hb.size⟩,?_,h.ne,h.env.keep hb.size λj hj=>hb.block j (by have:=h.room;omega) λhx=>by have:=h.room;rcases hx with hx|hx<;>omega⟩;rcases h.out_.2 with h0|⟨g0,cap,cur,rfl,h4,h1,rr⟩
 · exact⟨h.out_.1,.inl h0⟩
 · exact⟨h.out_.1,.inr ⟨g0,cap,cur,rfl,h4,(hb.block g0 (Array.getElem?_eq_some_iff.1 h1).1 (h3 g0 rfl)).trans h1,rr⟩⟩
end
theorem named_never {bits:Nat} {t:Hk.TM} {l r:List UInt8} {h:Hd.HdrV} (e:Hk.namedP bits t l=some (h,r)):h.never=false:=by
 unfold Hk.namedP at e
 repeat' split at e
 all_goals first|(cases e;done)|(cases e;simp[Hk.hv];done)|(cases e;rfl)
theorem FltPost.of {B d tb r:Nat} {w w1 w2:World} {a:Addr} (h:Bar (TX tb r) B w w1) (k:(∃t,DT w2 d tb r t)/\Bar (TX tb r) B w1 w2):FltPost B d tb r w (.panicked (hflt a)) w2:=⟨⟨a,rfl⟩,k.1,h.trans k.2⟩
theorem tel_bar {w2 w3:World} {B g d tb r n c:Nat} {A:Option Addr} {l:List UInt8} {ov:Value} {out:List Hd.HdrV} {t:Hk.TM} (h:BR w2 B g d tb r A n c l ov out t) (h0:Bar (λj=>j=g\/ov.ownBlock=some j) w2.heap.size w2 w3):Bar (TX tb r) B w2 w3:=
 ⟨h0.os,h0.tape,h0.output,h0.size,λj hj _=>h0.block j (Nat.lt_of_lt_of_le hj h.room.2.2.2) (λhx=>by
   have:=h.hg;rcases hx with hx|hx
   · omega
   · have:=(h.out_.lt j hx).1;omega)⟩
theorem hszs_snoc (out:List Hd.HdrV) (h:Hd.HdrV):hszs (out++[h])=hszs out+hsz h:=by simp[hszs]
theorem stepT_4 {t:Hk.TM} {out:List Hd.HdrV} {l:List UInt8} (h:¬32<=(l.headD 0).toNat):stepT t out l=match Hk.namedP 4 t l with|none=>none|some (h,rest)=>if 16384<hszs out+hsz h then none else some (out++[{h with never:=decide (16<=(l.headD 0).toNat)}],rest,t):=by
 unfold stepT Hk.stepP;rw[if_neg (by omega),if_neg (by omega),if_neg h];cases Hk.namedP 4 t l with
 |none=>rfl
 |some p=>rfl
theorem stepT_6 {t:Hk.TM} {out:List Hd.HdrV} {l:List UInt8} (h1:¬128<=(l.headD 0).toNat) (h2:64<=(l.headD 0).toNat):stepT t out l=match Hk.namedP 6 t l with|none=>none|some (h,rest)=>if 16384<hszs out+hsz h then none else some (out++[h],rest,t.add h):=by
 unfold stepT Hk.stepP;rw[if_neg h1,if_pos h2];cases Hk.namedP 6 t l with
 |none=>rfl
 |some p=>rfl
theorem stepT_5 {t:Hk.TM} {out:List Hd.HdrV} {l:List UInt8} (h1:¬64<=(l.headD 0).toNat) (h2:32<=(l.headD 0).toNat):stepT t out l=match Hk.intP 5 l with|none=>none|some (n,rest)=>if out≠[]\/n>4096 then none else some (out,rest,t.resize n):=by
 unfold stepT Hk.stepP;rw[if_neg (by omega),if_neg h1,if_pos h2];cases Hk.intP 5 l with
 |none=>rfl
 |some p=>
  obtain⟨n,rest⟩:=p;simp only;cases out with
  |nil=>by_cases h:n>4096<;>simp[h]
  |cons x out=>simp
theorem kind1A_any (w:World) (B g d tb r:Nat) (A:Option Addr) (n c:Nat) (l:List UInt8) (ov:Value) (out:List Hd.HdrV) (t:Hk.TM) (h:BR w B g d tb r A n c l ov out t) (hs:hszs out<=16384) (hx:128<=(l.headD 0).toNat):
 Calls Tryz.prog 235 #[.pointer (some ⟨g,0,none⟩)] w (KndPost B g d tb r out t l w):=by
 have HK:=hid h;have HN:=hid (bnum_any w B g d tb r A n c l ov out t 7 h (by omega));have HS:=hid hs;have h0:stepT t out l=match Hk.intP 7 l with|none=>none|some (i,rest)=>match t.get i with|none=>none|some h=>if 16384<hszs out+hsz h then none else some (out++[h],rest,t):=by
  unfold stepT Hk.stepP;rw[if_pos hx];cases Hk.intP 7 l with
  |none=>rfl
  |some p=>
   obtain⟨i,rest⟩:=p;simp only;cases t.get i<;>rfl
 have hb:=hid h0;clear h hs hx h0;go_enter Tryz.func235,Tryz.ntmps235;go_wp2_with fail;refine HN.out.mono ?_;intro e w1 hp;rcases hp with⟨i,rest,A1,n1,c1,hi,rfl,h5,hc⟩|⟨hi,hf⟩
 · have h0:=hb.out
   rw[hi]at h0;have h6:=hid h5;have he:=hid (hc.ofG HK.out.hg HK.out.room.2.2.2 (TX tb r));have hh:i<=1000000000000:=by
    rcases intP_small hi with h|h
    · omega
    · have:(2:Nat)^7=128:=rfl;omega
   have HH:=hid (bhead_any w1 B g d tb r A1 n1 c1 rest ov out t i h5 hh);have h3:=hid h0;clear hi h5 hc hh h0;go_wp2_with fail;refine HH.out.mono ?_;intro e w2 hp;rcases hp with⟨hd,hg,rfl,h7,_,hk⟩|⟨hg,hf⟩
   · have h0:=h3.out
     simp only[hg]at h0;have h8:=hid h7;have hl:=hid (he.out.trans (Bar.below hk h6.out.room.2.2.2 _));have h9:=get_small (Nat.le_trans h6.out.dt.sz h6.out.dt.mo) hg;have HT:=hid (btell_any w2 B g d tb r A1 n1 c1 rest ov out t hd h7 (Nat.le_trans h9.1 (by omega)) (Nat.le_trans h9.2 (by omega)) HS.out);have h4:=hid h0;clear hg h7 hk h0 h9;obtain⟨hn,hv,hne⟩:=hd;simp only[hdrC]at HT ⊢;go_wp2_with fail;refine HT.out.mono ?_;intro e w3 hp;rcases hp with⟨hm,rfl,ov',ho,h2⟩|⟨hq,hf⟩
     · have HF:=hid (show KndPost B g d tb r out t l w (.returned (.tuple #[])) w3 from .inl ⟨_,_,_,_,_,_,_,by rw[h4.out,if_neg (by omega)],rfl,ho,hl.out.trans ⟨h2.os,h2.tape,h2.output,h2.size,λj hj _=>h2.block j (Nat.lt_of_lt_of_le hj h8.out.room.2.2.2) (λhx=>by
        have:=h8.out.hg;rcases hx with hx|hx
        · omega
        · have:=(h8.out.out_.lt j hx).1;omega)⟩,by
          show hszs (out++[_])<=16384;have e1:hszs (out++[⟨hn,hv,hne⟩])=hszs out+hsz ⟨hn,hv,hne⟩:=by simp[hszs]
          rw[e1];exact hm⟩)
       clear ho h2 hm;go_wp2;go_end0;exact HF.out
     · obtain⟨⟨a,rfl⟩,h1⟩:=hf
       have HF:=hid (show KndPost B g d tb r out t l w (.panicked (hflt a)) w3 from .inr ⟨by rw[h4.out,if_pos hq],FltPost.of hl.out h1⟩);clear h1 hq;go_wp2_with fail;exact⟨rfl,HF.out⟩
   · obtain⟨⟨a,rfl⟩,h1⟩:=hf
     have HF:=hid (show KndPost B g d tb r out t l w (.panicked (hflt a)) w2 from .inr ⟨by have:=h3.out;simp only[hg]at this;exact this,FltPost.of he.out h1⟩);clear h1 hg;go_wp2_with fail;exact⟨rfl,HF.out⟩
 · obtain⟨⟨a,rfl⟩,h1⟩:=hf
   have HF:=hid (show KndPost B g d tb r out t l w (.panicked (hflt a)) w1 from .inr ⟨by rw[hb.out,hi],⟨a,rfl⟩,h1⟩);clear h1 hi;go_wp2_with fail;exact⟨rfl,HF.out⟩
theorem kind5A_any (w:World) (B g d tb r:Nat) (A:Option Addr) (n c:Nat) (l:List UInt8) (ov:Value) (out:List Hd.HdrV) (t:Hk.TM) (h:BR w B g d tb r A n c l ov out t) (hs:hszs out<=16384) (hx:¬16<=(l.headD 0).toNat):
 Calls Tryz.prog 244 #[.pointer (some ⟨g,0,none⟩)] w (KndPost B g d tb r out t l w):=by
 have HN:=hid (bnamed_any w B g d tb r A n c l ov out t 4 h (by omega));have HS:=hid hs;have h0:=stepT_4 (t:=t) (out:=out) (l:=l) (by omega);rw[show decide (16<=(l.headD 0).toNat)=false by simpa using hx]at h0;have h5:=hid h0;clear h hs hx h0;go_enter Tryz.func244,Tryz.ntmps244;go_wp2_with fail;refine HN.out.mono ?_;intro e w2 hp;rcases hp with⟨hd,rest,A1,n1,c1,h1,rfl,h4,h6,h7,h8⟩|⟨h1,hf⟩
 · have h0:=h5.out
   have h9:=named_never h1;simp only[h1]at h0;have hj:=hid h4;have hb:=hid h6;have HT:=hid (btell_any w2 B g d tb r A1 n1 c1 rest ov out t hd h4 h7 h8 HS.out);obtain⟨hn,hv,hne⟩:=hd;simp only at h9;subst h9;have h3:=hid h0;clear h1 h4 h6 h0 h7 h8;simp only[hdrC]at HT ⊢;go_wp2_with fail;refine HT.out.mono ?_;intro e w3 hp;rcases hp with⟨hc,rfl,ov',he,hh⟩|⟨hi,hf⟩
   · have HF:=hid (show KndPost B g d tb r out t l w (.returned (.tuple #[])) w3 from .inl ⟨_,_,_,_,_,_,_,by rw[h3.out,if_neg (by omega)],rfl,he,hb.out.trans (tel_bar hj.out hh),by rw[hszs_snoc];exact hc⟩)
     clear he hh hc;go_wp2;go_end0;exact HF.out
   · obtain⟨⟨a,rfl⟩,h2⟩:=hf
     have HF:=hid (show KndPost B g d tb r out t l w (.panicked (hflt a)) w3 from .inr ⟨by rw[h3.out,if_pos hi],FltPost.of hb.out h2⟩);clear h2 hi;go_wp2_with fail;exact⟨rfl,HF.out⟩
 · obtain⟨⟨a,rfl⟩,h2⟩:=hf
   have HF:=hid (show KndPost B g d tb r out t l w (.panicked (hflt a)) w2 from .inr ⟨by rw[h5.out,h1],⟨a,rfl⟩,h2⟩);clear h2 h1;go_wp2_with fail;exact⟨rfl,HF.out⟩
theorem kind4A_any (w:World) (B g d tb r:Nat) (A:Option Addr) (n c:Nat) (l:List UInt8) (ov:Value) (out:List Hd.HdrV) (t:Hk.TM) (h:BR w B g d tb r A n c l ov out t) (hs:hszs out<=16384) (hx:16<=(l.headD 0).toNat) (hb:¬32<=(l.headD 0).toNat):
 Calls Tryz.prog 243 #[.pointer (some ⟨g,0,none⟩)] w (KndPost B g d tb r out t l w):=by
 have HN:=hid (bnamed_any w B g d tb r A n c l ov out t 4 h (by omega));have HS:=hid hs;have h0:=stepT_4 (t:=t) (out:=out) (l:=l) hb;rw[show decide (16<=(l.headD 0).toNat)=true by simpa using hx]at h0;have hc:=hid h0;clear h hs hx hb h0;go_enter Tryz.func243,Tryz.ntmps243;go_wp2_with fail;refine HN.out.mono ?_;intro e w2 hp;rcases hp with⟨hd,rest,A1,n1,c1,h2,rfl,h1,he,h6,h7⟩|⟨h2,hf⟩
 · have h0:=hc.out
   simp only[h2]at h0;obtain⟨hn,hv,hne⟩:=hd;simp only[hdrC]at h6 h7 ⊢;have HX:=hid (Blk.new w2 63 #[.string hn,.string hv,.bool hne]);have hh:=hid ((Below.refl w2.heap.size w2).alloc (Nat.le_refl _) (.cells #[.string hn,.string hv,.bool hne] 63));have ho:=hid (h1.below hh.out);have hq:=hid (he.trans (Bar.below hh.out h1.room.2.2.2 (TX tb r)));have ht:=hid (show∀j,ov.ownBlock=some j->j≠w2.heap.size fromλj e=>by have:=(h1.out_.lt j e).2;omega);have HG:=hid (show B<=w2.heap.size/\g≠w2.heap.size from⟨h1.room.2.2.2,by have:=h1.blk.lt;omega⟩);have h4:=hid h0;have HZ:=hid (And.intro h6 h7);clear h2 h1 he h0 h6 h7;go_upto_region 1 with fail;generalize w2.alloc (.cells #[.string hn,.string hv,.bool hne] 63)=W3 at*
   have x2:=HX.out.cell 2;have xf:=HX.out.frozen 2;have xl:=HX.out.lt;simp only[List.getElem?_toArray,List.getElem?_cons_zero,List.getElem?_cons_succ]at x2;go_upto_region 2 with fail;have h8:=HX.out.put 2 (.bool true);simp only[List.setIfInBounds_toArray,List.set_cons_zero,List.set_cons_succ]at h8;have h5:=hid h8;have hi:=hid (ho.out.put HG.out.1 HG.out.2 ht.out 2 (.bool true));have hj:=hid (hq.out.setCell (p:=⟨w2.heap.size,2,none⟩) (.inl HG.out.1) (.bool true));clear h8 x2 xf xl;generalize W3.setCell ⟨w2.heap.size,2,none⟩ (.bool true)=W4 at*
   have x0:=h5.out.cell 0;have x1:=h5.out.cell 1;have x2:=h5.out.cell 2;have xl:=h5.out.lt;simp only[List.getElem?_toArray,List.getElem?_cons_zero,List.getElem?_cons_succ]at x0 x1 x2;have HT:=hid (btell_any W4 B g d tb r A1 n1 c1 rest ov out t ⟨hn,hv,true⟩ hi.out HZ.out.1 HZ.out.2 HS.out);simp only[hdrC]at HT;go_wp2_with fail;refine HT.out.mono ?_;intro e w5 hp;rcases hp with⟨h9,rfl,ov',hk,hl⟩|⟨hm,hf⟩
   · have HF:=hid (show KndPost B g d tb r out t l w (.returned (.tuple #[])) w5 from .inl ⟨_,_,_,_,_,_,_,by rw[h4.out,if_neg (show¬16384<hszs out+hsz ⟨hn,hv,hne⟩from Nat.not_lt.2 h9)],rfl,hk,hj.out.trans (tel_bar hi.out hl),by rw[hszs_snoc];exact h9⟩)
     clear hk hl h9;go_wp2;go_end0;exact HF.out
   · obtain⟨⟨a,rfl⟩,h3⟩:=hf
     have HF:=hid (show KndPost B g d tb r out t l w (.panicked (hflt a)) w5 from .inr ⟨by rw[h4.out,if_pos (show 16384<hszs out+hsz ⟨hn,hv,hne⟩from hm)],FltPost.of hj.out h3⟩);clear h3 hm;go_wp2_with fail;exact⟨rfl,HF.out⟩
 · obtain⟨⟨a,rfl⟩,h3⟩:=hf
   have HF:=hid (show KndPost B g d tb r out t l w (.panicked (hflt a)) w2 from .inr ⟨by rw[hc.out,h2],⟨a,rfl⟩,h3⟩);clear h3 h2;go_wp2_with fail;exact⟨rfl,HF.out⟩
end Go.Proofs.YtkpppjhbmnfmkaaGreatDoor
end

section
set_option maxHeartbeats 4000000
set_option maxRecDepth 100000
namespace Go.Proofs.YtkpppjhbmnfmkaaGreatDoor
open Go.RowKit Go.Own Go.Own.Cx
attribute [local go_sem] Oper.semAt_some
theorem tm_most (t:Hk.TM) (h:Hd.HdrV):(t.add h).most=t.most:=by
 unfold Hk.TM.add;split<;>rfl
theorem add_ok {t:Hk.TM} (h:Hd.HdrV) (hs:hszs t.E<=t.most):hszs (t.add h).E<=(t.add h).most:=by
 unfold Hk.TM.add
 split
 · exact Nat.zero_le _
 · rename_i h1
   have h2:=Hk.shrink_le (t.most-Hk.hz h) t.E;show hszs (_++[_])<=t.most;rw[hszs_snoc];have h3:hsz (Hk.off h)=Hk.hz h:=rfl;have h4:hszs (Hk.shrink (t.most-Hk.hz h) t.E)=Hk.hzs (Hk.shrink (t.most-Hk.hz h) t.E):=rfl;omega
theorem kind2A_any (w:World) (B g d tb r:Nat) (A:Option Addr) (n c:Nat) (l:List UInt8) (ov:Value) (out:List Hd.HdrV) (t:Hk.TM) (h:BR w B g d tb r A n c l ov out t) (hs:hszs out<=16384) (hx:64<=(l.headD 0).toNat) (hj:¬128<=(l.headD 0).toNat):
 Calls Tryz.prog 239 #[.pointer (some ⟨g,0,none⟩)] w (KndPost B g d tb r out t l w):=by
 have HN:=Lib.hid (bnamed_any w B g d tb r A n c l ov out t 6 h (by omega));have HS:=Lib.hid hs;have hk:=Lib.hid (stepT_6 (t:=t) (out:=out) (l:=l) hj hx);clear h hs hx hj;go_enter Tryz.func239,Tryz.ntmps239;go_wp2_with fail;refine HN.out.mono ?_;intro e w2 hp;rcases hp with⟨hd,rest,A1,n1,c1,h3,rfl,h1,hl,h9,hb⟩|⟨h3,hf⟩
 · have hc:=hk.out
   simp only[h3]at hc;obtain⟨hn,hv,hne⟩:=hd;simp only[hdrC]at h9 hb ⊢;have HX:=Lib.hid (Blk.new w2 63 #[.string hn,.string hv,.bool hne]);have hm:=Lib.hid ((Below.refl w2.heap.size w2).alloc (Nat.le_refl _) (.cells #[.string hn,.string hv,.bool hne] 63));have ho:=Lib.hid (h1.below hm.out);have hq:=Lib.hid (hl.trans (Bar.below hm.out h1.room.2.2.2 (TX tb r)));have hD:=Lib.hid (show∀j,ov.ownBlock=some j->j≠w2.heap.size fromλj e=>by have:=(h1.out_.lt j e).2;omega);have HG:=Lib.hid (show B<=w2.heap.size/\g≠w2.heap.size from⟨h1.room.2.2.2,by have:=h1.blk.lt;omega⟩);have h6:=Lib.hid hc;have HZ:=Lib.hid (And.intro h9 hb);clear h3 h1 hl hc h9 hb;go_upto_region 1 with fail;generalize w2.alloc (.cells #[.string hn,.string hv,.bool hne] 63)=W3 at*
   have x0:=HX.out.cell 0;have x1:=HX.out.cell 1;have x2:=HX.out.cell 2;have xl:=HX.out.lt;simp only[List.getElem?_toArray,List.getElem?_cons_zero,List.getElem?_cons_succ]at x0 x1 x2;have HT:=Lib.hid (btell_any W3 B g d tb r A1 n1 c1 rest ov out t ⟨hn,hv,hne⟩ ho.out HZ.out.1 HZ.out.2 HS.out);simp only[hdrC]at HT;go_wp2_with fail;refine HT.out.mono ?_;intro e w5 hp;rcases hp with⟨he,rfl,ov',h2,hh⟩|⟨ht,hf⟩
   · have hu:Bar (TX tb r) B w w5:=hq.out.trans (tel_bar ho.out hh)
     have h4:Blk w5 w2.heap.size 63 #[.string hn,.string hv,.bool hne]:=hh.blk HX.out HX.out.lt (λhx=>by
      rcases hx with hx|hx
      · exact HG.out.2 hx.symm
      · exact hD.out _ hx rfl)
     have ha:=h2.dt.tab;have hw:=h2.dt.mo;have h7:=Lib.hid (tadd_any w5.drew tb r t.E t.most ⟨hn,hv,hne⟩ ha hw (Nat.le_trans HZ.out.1 (by omega)) (Nat.le_trans HZ.out.2 (by omega)));simp only[hdrC]at h7;have h8:=Lib.hid h2;have hE:=Lib.hid hu;have x0:=h4.cell 0;have x1:=h4.cell 1;have x2:=h4.cell 2;have xl:=h4.lt;simp only[List.getElem?_toArray,List.getElem?_cons_zero,List.getElem?_cons_succ]at x0 x1 x2;have y0:=h2.blk.cell 0;have z0:=h2.dt.dec.cell 0;simp only[List.getElem?_toArray,List.getElem?_cons_zero,List.getElem?_cons_succ]at y0 z0;clear ha hw hh hu h4 h2;go_upto_region 2 with fail;go_still_tail 8,(by kernel_rfl);change wpList _ _ _ _ _ w5.drew;go_wp2_with fail;refine h7.out.mono ?_;rintro e w6 ⟨rfl,hA,hC⟩;have h0:Bar (TX tb r) w5.heap.size w5 w6:=(Bar.refl (TX tb r) w5.heap.size w5).drew.trans (show Bar (TX tb r) w5.heap.size w5.drew w6 from hC);have e1:(Hk.TM.add t ⟨hn,hv,hne⟩).most=t.most:=tm_most t _;have hi:=h8.out.turn hA h0 (by have:=add_ok (t:=t) ⟨hn,hv,hne⟩ h8.out.dt.sz;rw[e1]at this;exact this) h8.out.dt.mo;have e2:(⟨(Hk.TM.add ⟨t.E,t.most⟩ ⟨hn,hv,hne⟩).E,t.most⟩:Hk.TM)=t.add ⟨hn,hv,hne⟩:=by
      have e3:t.add ⟨hn,hv,hne⟩=⟨(t.add ⟨hn,hv,hne⟩).E,(t.add ⟨hn,hv,hne⟩).most⟩:=rfl;rw[e3,e1]
     rw[e2]at hi;have HF:=Lib.hid (show KndPost B g d tb r out t l w (.returned (.tuple #[])) w6 from .inl ⟨_,_,_,_,_,_,_,by rw[h6.out,if_neg (show¬16384<hszs out+hsz ⟨hn,hv,hne⟩from Nat.not_lt.2 he)],rfl,hi,hE.out.trans (h0.mono h8.out.room.2.2.2),by rw[hszs_snoc];exact he⟩);clear hi hC h0 hA e1 e2 he;go_wp2;go_end0;exact HF.out
   · obtain⟨⟨a,rfl⟩,h5⟩:=hf
     have HF:=Lib.hid (show KndPost B g d tb r out t l w (.panicked (hflt a)) w5 from .inr ⟨by rw[h6.out,if_pos (show 16384<hszs out+hsz ⟨hn,hv,hne⟩from ht)],FltPost.of hq.out h5⟩);clear h5 ht;go_wp2_with fail;exact⟨rfl,HF.out⟩
 · obtain⟨⟨a,rfl⟩,h5⟩:=hf
   have HF:=Lib.hid (show KndPost B g d tb r out t l w (.panicked (hflt a)) w2 from .inr ⟨by rw[hk.out,h3],⟨a,rfl⟩,h5⟩);clear h5 h3;go_wp2_with fail;exact⟨rfl,HF.out⟩
theorem kind3A_any (w:World) (B g d tb r:Nat) (A:Option Addr) (n c:Nat) (l:List UInt8) (ov:Value) (out:List Hd.HdrV) (t:Hk.TM) (h:BR w B g d tb r A n c l ov out t) (hs:hszs out<=16384) (hx:32<=(l.headD 0).toNat) (h8:¬64<=(l.headD 0).toNat):
 Calls Tryz.prog 241 #[.pointer (some ⟨g,0,none⟩)] w (KndPost B g d tb r out t l w):=by
 have HK:=Lib.hid h;have HN:=Lib.hid (bnum_any w B g d tb r A n c l ov out t 5 h (by omega));have HS:=Lib.hid hs;have h9:=Lib.hid (stepT_5 (t:=t) (out:=out) (l:=l) h8 hx);clear h hs hx h8;go_enter Tryz.func241,Tryz.ntmps241;go_wp2_with fail;refine HN.out.mono ?_;intro e w1 hp;rcases hp with⟨i,rest,A1,n1,c1,hi,rfl,h1,hb⟩|⟨hi,hf⟩
 · have h6:=h9.out
   simp only[hi]at h6;have h3:=Lib.hid h1;have hc:=Lib.hid (hb.ofG HK.out.hg HK.out.room.2.2.2 (TX tb r));obtain⟨A0,c0,hd,_,_⟩:=h1.out_.form;have y0:=h1.blk.cell 0;have y2:=h1.blk.cell 2;have z0:=h1.dt.dec.cell 0;have z1:=h1.dt.dec.cell 1;have gl:=h1.blk.lt;have dl:=h1.dt.dec.lt;simp only[List.getElem?_toArray,List.getElem?_cons_zero,List.getElem?_cons_succ]at y0 y2 z0 z1;rw[hd]at y2;have hl:i<=1000000000000:=by
    rcases intP_small hi with h|h
    · omega
    · have:(2:Nat)^5=32:=rfl;omega
   have h4:=Lib.hid h6;clear hi h1 hb h6 hd;by_cases h0:out≠[]\/i>4096
   · have hm:=Lib.hid (show stepT t out l=none by rw[h4.out,if_pos h0])
     obtain⟨a,ha⟩:=h3.out.env.tab;have hn:(0<out.length/\decide (0<out.length)=true/\((0:Int)<(out.length:Int)))\/(out.length=0/\(4096:Int)<(i:Int)/\decide ((4096:Int)<(i:Int))=true):=by
      by_cases ho:out=[]
      · exact .inr ⟨by simp[ho],by rcases h0 with h|h;exact absurd ho h;omega,by rcases h0 with h|h;exact absurd ho h;simp;omega⟩
      · exact .inl (by have:=List.length_pos_iff.2 ho;exact⟨this,by simpa using this,by omega⟩)
     clear h0;rcases hn with⟨ho,hu,hA⟩|⟨ho,h5,hC⟩
     all_goals
      try rw[ho]at y2
      go_upto_region 2 with fail;go_wp2_with (first
       |(go_at_call 242
         refine Calls.mono (hgive_err a _) ?_;rintro e w5 ⟨rfl,hw⟩;subst w5)
       |fail)
      exact⟨rfl,.inr ⟨hm.out,⟨a,rfl⟩,⟨t,h3.out.dt⟩,hc.out⟩⟩
   · have ho:out=[]:=Classical.byContradiction λh=>h0 (.inl h)
     have h5:i<=4096:=by have:¬i>4096:=λh=>h0 (.inr h);omega
     have h7:=Lib.hid (show stepT t out l=some (out,rest,t.resize i)by rw[h4.out,if_neg h0]);have HR:=Lib.hid (tresize_any w1 tb r t.E t.most i h3.out.dt.tab h5);have hq:¬(4096:Int)<(i:Int):=by omega
     have hid:decide ((4096:Int)<(i:Int))=false:=by simpa using hq
     have ht:=Lib.hid h5;have hD:((out.length:Nat):Int)=0:=by simp[ho]
     rw[ho]at y2;simp only[List.length_nil]at y2;clear h0 ho h5 hl;go_upto_region 3 with fail;go_wp2_with fail;refine HR.out.mono ?_;rintro e w6 ⟨rfl,he,hh⟩;have h2:Bar (TX tb r) w1.heap.size w1 w6:=hh;have hj:=h3.out.turn he h2 (Hk.shrink_le i t.E) ht.out;have HF:=Lib.hid (show KndPost B g d tb r out t l w (.returned (.tuple #[])) w6 from .inl ⟨_,_,_,_,_,_,_,h7.out,rfl,hj,hc.out.trans (h2.mono h3.out.room.2.2.2),HS.out⟩);clear hj hh h2 he;go_wp2_with (first
      |(go_at_call 242
        with_reducible refine Calls.mono (hgive_nil _) ?_
        rintro e w5 ⟨rfl,hw⟩;subst w5)
      |fail)
     go_end0;exact HF.out
 · obtain⟨⟨a,rfl⟩,hk⟩:=hf
   have HF:=Lib.hid (show KndPost B g d tb r out t l w (.panicked (hflt a)) w1 from .inr ⟨by rw[h9.out,hi],⟨a,rfl⟩,hk⟩);clear hk hi;go_wp2_with fail;exact⟨rfl,HF.out⟩
end Go.Proofs.YtkpppjhbmnfmkaaGreatDoor
end

section
set_option maxHeartbeats 1000000
set_option maxRecDepth 100000
namespace Go.Proofs.YtkpppjhbmnfmkaaGreatDoor
open Lib (hid)
open Go.RowKit Go.Own Go.Own.Cx
attribute [local go_sem] Oper.semAt_some
theorem assert_hflt (v:Value) (w:World):(Instr.typeAssert (.iface 279 v) 20 279 true).run Tryz.prog w= .ok (.tuple #[v,.bool true]) w:=by
 simp[Instr.typeAssert,go_sem]
def goneW (w:World) (d:Nat) (a:Addr):World:=(w.alloc (.cells #[ev a] 279)).setCell ⟨d,2,none⟩ (.bool true)
theorem taken_any (w:World) (d:Nat) (a:Addr) (v0 v1:Value) (h:Blk w d 137 #[v0,v1,.bool false]):
 Calls Tryz.prog 217 #[.pointer (some ⟨d,0,none⟩),.iface 279 (.agg #[ev a])] w λe w'=>e= .returned (ev a)/\w'=goneW w d a:=by
 have h1:=assert_hflt (.agg #[ev a]);have HX:=hid (Blk.new w 279 #[ev a]);have HD:=hid (h.alloc (.cells #[ev a] 279));have h3:=h.lt;unfold goneW;have HW:w.alloc (.cells #[.iface 327 (.pointer (some a))] 279)=w.alloc (.cells #[.iface 327 (.pointer (some a))] 279):=rfl;simp only[ev]at h1 HX HD ⊢;clear h;go_enter Tryz.func217,Tryz.ntmps217;go_upto_region 4 with fail;generalize h0:w.alloc (.cells #[.iface 327 (.pointer (some a))] 279)=W0 at HX HD ⊢;have h2:=hid h0;clear h0 HW;have d2:W0.cell? ⟨d,2,none⟩=some (.bool false):=HD.out.cell 2;have d0:W0.cell? ⟨d,0,none⟩=some v0:=HD.out.cell 0;have df:=HD.out.frozen 2;have x0:W0.cell? ⟨w.heap.size,0,none⟩=some (.iface 327 (.pointer (some a))):=HX.out.cell 0;have xl:=HX.out.lt;have xd:¬w.heap.size=d:=by omega
 have xd':¬d=w.heap.size:=by omega
 go_wp2_with fail;go_ret;exact⟨rfl,by rw[h2.out]⟩
def faultW (w:World) (d g1 g2:Nat) (a:Addr):World:=((goneW w d a).setCell ⟨g1,0,none⟩ (.slice none 0 0)).setCell ⟨g2,0,none⟩ (ev a)
theorem decode1_fault (w:World) (g0 g1 g2 d:Nat) (a:Addr) (v0 v1 u1 u2:Value) (hd:Blk w d 137 #[v0,v1,.bool false]) (h0:Blk w g0 78 #[.pointer (some ⟨d,0,none⟩)]) (h1:Blk w g1 41 #[u1]) (h2:Blk w g2 28 #[u2]) (hn:g1≠d/\g2≠d/\g1≠g2):
 CallsD Tryz.prog 216 #[.pointer (some ⟨g0,0,none⟩),.pointer (some ⟨g1,0,none⟩),.pointer (some ⟨g2,0,none⟩)] (.panicking (hflt a)) w λe u' w'=>
  e= .returned (.tuple #[])/\u'= .panicking [{v:=.iface 279 (.agg #[ev a]),recovered:=true}]/\w'=faultW w d g1 g2 a:=by
 have h4:w.cell? ⟨g0,0,none⟩=some (.pointer (some ⟨d,0,none⟩)):=h0.cell 0;have HT:=hid (taken_any w d a v0 v1 hd);have Hb:∀g,g≠d->∀t cs,Blk w g t cs->Blk (goneW w d a) g t cs:=λg hg t cs h=>(h.alloc _).far (p:=⟨d,2,none⟩) (λe=>hg e) _;have H1:=hid (Hb g1 hn.1 _ _ h1);have H2:=hid (Hb g2 hn.2.1 _ _ h2);have h5:=h0.lt;unfold faultW;have h6:¬g1=g2:=hn.2.2;have h7:¬g2=g1:=λe=>hn.2.2 e.symm;clear hd h0 h1 h2 Hb;simp only[ev]at HT ⊢;refine callsD_of_wpS Tryz.func216 rfl λc₀ cs hu=>?_;change Code.wpS _ _ _ {tmps:=#[.pointer (some ⟨g0,0,none⟩),.pointer (some ⟨g1,0,none⟩),.pointer (some ⟨g2,0,none⟩),undef,undef,undef,undef,undef,undef,undef],defers:=[]} _ _;apply wpS_seq;apply wpS_region;simp[wpOpsS,go_sem,recoverD,hu,hflt,ev,Tryz.ntmps216,Exit.thenS];apply wpS_seq;apply wpS_region;simp[wpOpsS,go_sem,Exit.thenS];refine wpS_cond (t:=true) (by simp[Act.eval,Array.replicate]) ?_;simp only[if_true];refine wpS_of_wp ?_;go_wp2_with fail;refine HT.out.mono ?_;rintro e w1 ⟨rfl,hw⟩;rw[<-hw]at H1 H2;have h3:=hid hw;clear hw;have x1:=H1.out.cell 0;have x2:=H2.out.cell 0;have f1:=H1.out.frozen 0;have f2:=H2.out.frozen 0;simp only[List.getElem?_toArray,List.getElem?_cons_zero]at x1 x2;go_wp2;exact⟨rfl,_,rfl,.tuple #[],by simp[results,Tryz.results216],rfl,rfl,by rw[h3.out]⟩
theorem named_len {bits:Nat} {t:Hk.TM} {l r:List UInt8} {h:Hd.HdrV} (e:Hk.namedP bits t l=some (h,r)):r.length<l.length:=by
 unfold Hk.namedP at e;cases h1:Hk.intP bits l with
 |none=>rw[h1]at e;cases e
 |some p=>
  obtain⟨i,r1⟩:=p;rw[h1]at e;obtain⟨a1,e1,_,e1'⟩:=intP_len2 h1;simp only at e
  split at e
  · cases h2:Hk.textP r1 with
    |none=>rw[h2]at e;cases e
    |some p=>
     obtain⟨s,r2⟩:=p;rw[h2]at e;obtain⟨a2,e2,_⟩:=textP_len2 h2;simp only at e;cases h3:Hk.textP r2 with
     |none=>rw[h3]at e;cases e
     |some p=>
      obtain⟨v,r3⟩:=p;rw[h3]at e;obtain⟨a3,e3,_⟩:=textP_len2 h3;cases e;omega
  · cases h2:t.get i with
    |none=>rw[h2]at e;cases e
    |some hd=>
     rw[h2]at e;simp only at e;cases h3:Hk.textP r1 with
     |none=>rw[h3]at e;cases e
     |some p=>
      obtain⟨v,r3⟩:=p;rw[h3]at e;obtain⟨a3,e3,_⟩:=textP_len2 h3;cases e;omega
theorem stepP_len {t t':Hk.TM} {o:Bool} {l r:List UInt8} {h:Option Hd.HdrV} (e:Hk.stepP t o l=some (h,r,t')):r.length<l.length:=by
 unfold Hk.stepP at e
 split at e
 · cases h1:Hk.intP 7 l with
   |none=>rw[h1]at e;cases e
   |some p=>
    obtain⟨i,r1⟩:=p;rw[h1]at e;obtain⟨a1,e1,_,e1'⟩:=intP_len2 h1;simp only at e;cases h2:t.get i with
    |none=>rw[h2]at e;cases e
    |some hd=>rw[h2]at e;cases e;omega
 · split at e
   · cases h1:Hk.namedP 6 t l with
     |none=>rw[h1]at e;cases e
     |some p=>obtain⟨hd,r1⟩:=p;rw[h1]at e;have:=named_len h1;cases e;omega
   · split at e
     · cases h1:Hk.intP 5 l with
       |none=>rw[h1]at e;cases e
       |some p=>
        obtain⟨i,r1⟩:=p;rw[h1]at e;obtain⟨a1,e1,_,e1'⟩:=intP_len2 h1;simp only at e
        split at e
        · cases e
        · cases e;omega
     · cases h1:Hk.namedP 4 t l with
       |none=>rw[h1]at e;cases e
       |some p=>obtain⟨hd,r1⟩:=p;rw[h1]at e;have:=named_len h1;cases e;omega
theorem stepT_len {t t':Hk.TM} {out out':List Hd.HdrV} {l r:List UInt8} (e:stepT t out l=some (out',r,t')):r.length<l.length:=by
 unfold stepT at e;cases h1:Hk.stepP t (!out.isEmpty) l with
 |none=>rw[h1]at e;cases e
 |some p=>
  obtain⟨h,r1,t1⟩:=p;rw[h1]at e;have:=stepP_len h1;cases h with
  |none=>cases e;exact this
  |some hd=>
   simp only at e
   split at e
   · cases e
   · cases e;exact this
theorem blk_step (k:Nat) (t:Hk.TM) (out:List Hd.HdrV) (x:UInt8) (l:List UInt8):Hk.blockP (k+1) t (hszs out) out (x::l)=match stepT t out (x::l)with|none=>none|some (out',r,t')=>Hk.blockP k t' (hszs out') out' r:=by
 rw[Hk.blockP];unfold stepT;cases Hk.stepP t (!out.isEmpty) (x::l)with
 |none=>rfl
 |some p=>
  obtain⟨h,r1,t1⟩:=p;cases h with
  |none=>rfl
  |some hd=>
   simp only;by_cases hb:16384<hszs out+hsz hd
   · rw[if_pos hb,if_pos (show hszs out+Hk.hz hd>16384 from hb)]
   · rw[if_neg hb,if_neg (show¬hszs out+Hk.hz hd>16384 from hb)]
     simp only;rw[hszs_snoc]
     rfl
def kmask:Nat->Int|0=>128|1=>192|2=>224|_=>240
def kbits:Nat->Int|0=>128|1=>64|2=>32|3=>16|_=>0
def kK (x:Nat):Nat:=if 128<=x then 0 else if 64<=x then 1 else if 32<=x then 2 else if 16<=x then 3 else 4
theorem kK_all:(List.range 256).all (λx=>(List.range 5).all λi=>if i<kK x then decide (bits .and .u8 (x:Int) (kmask i)≠kbits i)else if i=kK x then decide (bits .and .u8 (x:Int) (kmask i)=kbits i)else true)=true:=by kernel_rfl
theorem kK_no {x i:Nat} (hx:x<256) (hi:i<kK x) (h5:i<5):bits .and .u8 (x:Int) (kmask i)≠kbits i:=by
 have h:=List.all_eq_true.1 (List.all_eq_true.1 kK_all x (List.mem_range.2 hx)) i (List.mem_range.2 h5);rw[if_pos hi]at h;exact of_decide_eq_true h
theorem kK_yes {x:Nat} (hx:x<256):bits .and .u8 (x:Int) (kmask (kK x))=kbits (kK x):=by
 have h5:kK x<5:=by unfold kK;(repeat' split)<;>omega
 have h:=List.all_eq_true.1 (List.all_eq_true.1 kK_all x (List.mem_range.2 hx)) (kK x) (List.mem_range.2 h5);rw[if_neg (by omega),if_pos rfl]at h;exact of_decide_eq_true h
theorem kK_5 (x:Nat):kK x<5:=by unfold kK;(repeat' split)<;>omega
end Go.Proofs.YtkpppjhbmnfmkaaGreatDoor
end

section
set_option maxHeartbeats 16000000
set_option maxRecDepth 100000
namespace Go.Proofs.YtkpppjhbmnfmkaaGreatDoor
open Lib (hid)
open Go.RowKit Go.Own Go.Own.Cx
attribute [local go_sem] Oper.semAt_some
theorem _root_.Go.Own.Cx.Bar.weaken {X Y:Nat->Prop} {B:Nat} {w w':World} (h:Bar X B w w') (hx:∀j,X j->Y j):Bar Y B w w':=⟨h.os,h.tape,h.output,h.size,λj hj hn=>h.block j hj λk=>hn (hx j k)⟩
theorem DT.same {w w':World} {d tb r:Nat} {t:Hk.TM} (h:DT w d tb r t) (h1:w'.heap[d]?=w.heap[d]?) (h2:w'.heap[tb]?=w.heap[tb]?) (h3:w'.heap[r]?=w.heap[r]?):DT w' d tb r t:=⟨h1.trans h.dec,h.tab.keep h2 h3,h.sz,h.mo⟩
structure DA (W wr:World) (G d tb r:Nat) (t0:Hk.TM) (l0:List UInt8) (A:Option Addr) (n c:Nat) (l:List UInt8) (ov:Value) (out:List Hd.HdrV) (t:Hk.TM):Prop where
 bk:BR wr G G d tb r A n c l ov out t
 sz:hszs out<=16384
 low:Bar (TX tb r) G W wr
 run_:∃k,l.length<=k/\Hk.decP t0 l0=Hk.blockP k t (hszs out) out l
def DIA (W:World) (G d tb r:Nat) (t0:Hk.TM) (l0:List UInt8) (wr:World):Prop:=∃A n c l ov out t,DA W wr G d tb r t0 l0 A n c l ov out t
section
variable {W wr w3:World} {G d tb r n c n' c':Nat} {t0 t t':Hk.TM} {l0 l rest:List UInt8} {A A':Option Addr} {x:UInt8} {ov ov':Value} {out out':List Hd.HdrV}
theorem DA.none_ (h:DA W wr G d tb r t0 l0 A n c (x::l) ov out t) (hs:stepT t out (x::l)=none):Hk.decP t0 l0=none:=by
 obtain⟨k,hk,he⟩:=h.run_
 match k,hk with
 |k+1,_=>rw[he,blk_step,hs]
theorem DA.next (h:DA W wr G d tb r t0 l0 A n c (x::l) ov out t) (hs:stepT t out (x::l)=some (out',rest,t')) (hk:BR w3 G G d tb r A' n' c' rest ov' out' t') (hb:Bar (TX tb r) G wr w3) (hz:hszs out'<=16384):
 DA W w3 G d tb r t0 l0 A' n' c' rest ov' out' t'/\n'<n:=by
 have h1:=stepT_len hs;have h2:=hk.rd_.1;have h3:=h.bk.rd_.1;refine⟨⟨hk,hz,h.low.trans hb,?_⟩,by omega⟩;obtain⟨k,hk,he⟩:=h.run_
 match k,hk with
 |k+1,hk=>exact⟨k,by simp at hk h1;omega,by rw[he,blk_step,hs]⟩
theorem DA.end_ (h:DA W wr G d tb r t0 l0 A n c [] ov out t):Hk.decP t0 l0=some (out,t):=by
 obtain⟨k,hk,he⟩:=h.run_;rw[he];cases k<;>rfl
end
def DecPost (d tb r:Nat) (t:Hk.TM) (l:List UInt8) (w:World) (e:Ending) (w':World):Prop:=
 (∃hs t' A' c',Hk.decP t l=some (hs,t')/\e= .returned (.tuple #[.slice A' hs.length c',.nilIface])/\hs.length<=c'/\Cm.RS hdrC 3 w' w'.heap.size A' hs.length hs/\(0<hs.length->∀ad,A'=some ad->w.heap.size<=ad.block)/\hszs hs<=16384/\DT w' d tb r t'/\Bar (TX tb r) w.heap.size w w')\/
 (Hk.decP t l=none/\∃a E m,e= .returned (.tuple #[.slice none 0 0,ev a])/\Blk w' d 137 #[.pointer (some ⟨tb,0,none⟩),.int .i64 4096,.bool true]/\TabR w' tb r E m/\hszs E<=m/\m<=4096/\Bar (λj=>TX tb r j\/j=d) w.heap.size w w')
theorem far_ne {w:World} {p:Addr} {v:Value} {j:Nat} (h:j≠p.block):(w.setCell p v).heap[j]?=w.heap[j]?:=Below.heap_setCell _ _ _ j h
theorem faultW_block {w:World} {d g1 g2:Nat} {a:Addr} {j:Nat} (hj:j<w.heap.size) (h0:j≠d) (h1:j≠g1) (h2:j≠g2):(faultW w d g1 g2 a).heap[j]?=w.heap[j]?:=by
 unfold faultW goneW;rw[far_ne h2,far_ne h1,far_ne h0];exact Below.heap_alloc w _ j hj
theorem faultW_cells {w:World} {d g1 g2:Nat} {a:Addr} {u1 u2:Value} (h1:Blk w g1 41 #[u1]) (h2:Blk w g2 28 #[u2]) (hn:g1≠d/\g2≠d/\g1≠g2):(faultW w d g1 g2 a).cell? ⟨g1,0,none⟩=some (.slice none 0 0)/\(faultW w d g1 g2 a).cell? ⟨g2,0,none⟩=some (ev a):=by
 have Hb:∀g,g≠d->∀t cs,Blk w g t cs->Blk (goneW w d a) g t cs:=λg hg t cs h=>(h.alloc _).far (p:=⟨d,2,none⟩) (λe=>hg e) _;exact⟨(((Hb g1 hn.1 _ _ h1).put 0 (.slice none 0 0)).far (p:=⟨g2,0,none⟩) (λe=>hn.2.2 e) _).cell 0,(((Hb g2 hn.2.1 _ _ h2).far (p:=⟨g1,0,none⟩) (λe=>hn.2.2 e.symm) _).put 0 (ev a)).cell 0⟩
theorem dec_fault {w W1 w3:World} {G d tb r:Nat} {t0 t9:Hk.TM} {l0:List UInt8} {a:Addr} (hw:Below w.heap.size w W1) (hb:Bar (TX tb r) G W1 w3) (hG:w.heap.size+1+1<G) (hG3:G<=w3.heap.size) (h0:DT w3 d tb r t9) (hlt:d<w.heap.size/\tb<w.heap.size/\r<w.heap.size) (h2:¬TX tb r d)
 (hno:Hk.decP t0 l0=none):
 DecPost d tb r t0 l0 w (.returned (.tuple #[.slice none 0 0,ev a])) (faultW w3 d (w.heap.size+1) (w.heap.size+1+1) a):=by
 refine .inr ⟨hno,a,t9.E,t9.most,rfl,?_,?_,h0.sz,h0.mo,?_⟩
 · have h:=((h0.dec.alloc (.cells #[ev a] 279)).put 2 (.bool true))
   exact(h.far (p:=⟨w.heap.size+1,0,none⟩) (by simp;omega) _).far (p:=⟨w.heap.size+1+1,0,none⟩) (by simp;omega) _
 · have e1:tb≠d:=λe=>h2 (.inl e.symm)
   have e2:r≠d:=λe=>h2 (.inr e.symm);exact h0.tab.keep (faultW_block (by omega) e1 (by omega) (by omega)) (faultW_block (by omega) e2 (by omega) (by omega))
 · have h1:Bar (λj=>TX tb r j\/j=d) w.heap.size w w3:=(Bar.of hw _).trans ((hb.mono (by omega)).weaken λj h=>.inl h)
   unfold faultW goneW;exact(((h1.alloc (by omega) _).setCell (p:=⟨d,2,none⟩) (.inr (.inr rfl)) _).setCell (p:=⟨w.heap.size+1,0,none⟩) (.inl (by simp)) _).setCell (p:=⟨w.heap.size+1+1,0,none⟩) (.inl (by simp;omega)) _
def IKt (t:Value) (K:Nat):Prop:=t= .int .i64 0\/(t= .int .i64 1/\1<=K)\/(t= .int .i64 2/\2<=K)\/(t= .int .i64 3/\3<=K)\/(t= .int .i64 4/\4<=K)
def ikI (t:Value):Nat:=match t with| .int _ n=>5-n.toNat|_=>0
theorem decodeA_any (w:World) (d tb r:Nat) (t:Hk.TM) (A:Option Addr) (n c B0:Nat) (l:List UInt8) (hd:DT w d tb r t) (hr:Rd w B0 A n l) (hB:B0<=w.heap.size) (hc:n<=c) (hn:n<=1000000)
 (H1:0<n->∀ad,A=some ad->¬TX tb r ad.block) (H2:d<w.heap.size/\tb<w.heap.size/\r<w.heap.size) (hM:¬TX tb r d) (H7:20<=tb/\20<=r) (hE:HpE w):
 Calls Tryz.prog 194 #[.pointer (some ⟨d,0,none⟩),.slice A n c] w (DecPost d tb r t l w):=by
 have Hm:∀(fn:Fn) (first cap:Array Value) (w:World),(Instr.makeFunc fn first cap).run Tryz.prog w= .ok (.func fn first cap) w:=λ_ _ _ _=>rfl;have hS:=hid (((((Below.refl w.heap.size w).alloc (Nat.le_refl _) (.cells #[.pointer (some ⟨d,0,none⟩)] 78)).alloc (by simp) (.cells #[.slice none 0 0] 41))).alloc (by simp;omega) (.cells #[.nilIface] 28));have X0:=hid (((Blk.new w 78 #[.pointer (some ⟨d,0,none⟩)]).alloc (.cells #[.slice none 0 0] 41)).alloc (.cells #[.nilIface] 28));have X1:=hid ((Blk.new (w.alloc (.cells #[.pointer (some ⟨d,0,none⟩)] 78)) 41 #[.slice none 0 0]).alloc (.cells #[.nilIface] 28));have X2:=hid (Blk.new ((w.alloc (.cells #[.pointer (some ⟨d,0,none⟩)] 78)).alloc (.cells #[.slice none 0 0] 41)) 28 #[.nilIface]);have HZ:=hid (show(((w.alloc (.cells #[.pointer (some ⟨d,0,none⟩)] 78)).alloc (.cells #[.slice none 0 0] 41)).alloc (.cells #[.nilIface] 28)).heap.size=w.heap.size+1+1+1 by simp);have H8:=hid (hd.below hS.out H2);have HR:=hid ((hr.more hB).below hS.out);have Hc:=hid (hE.below hS.out hE.room);have hi:=hid H2;have hN:=hid hM;have He:=hid H7;have hI:=hid hE.room;have H5:=hid H1;have Hl:=hr.1;have Hn:=H2.1;clear hd hr H2 hM H7 hE H1;simp only[World.size_alloc]at X1 X2;go_enter_defers Tryz.func194,Tryz.ntmps194;go_upto_region 1 with fail;generalize ((w.alloc (.cells #[.pointer (some ⟨d,0,none⟩)] 78)).alloc (.cells #[.slice none 0 0] 41)).alloc (.cells #[.nilIface] 28)=W0 at*
 have d2:W0.cell? ⟨d,2,none⟩=some (.bool false):=H8.out.dec.cell 2;have x0:=X0.out.cell 0;simp only[List.getElem?_toArray,List.getElem?_cons_zero,List.getElem?_cons_succ]at x0;go_wp2_with fail;have hz:=HZ.out;have Hg:=hid (show DIA (W0.alloc (.cells #[.pointer (some ⟨d,0,none⟩),.slice A n c,.slice none 0 0,.int .i64 0] 255)) W0.heap.size d tb r t l (W0.alloc (.cells #[.pointer (some ⟨d,0,none⟩),.slice A n c,.slice none 0 0,.int .i64 0] 255))from
  ⟨A,n,c,l,.slice none 0 0,[],t,⟨Blk.new W0 _ _,Nat.le_refl _,hc,hn,(HR.out.more (by omega)).alloc (Nat.le_refl _) _,H5.out,H8.out.below ((Below.refl W0.heap.size W0).alloc (Nat.le_refl _) _) (by have:=hi.out;omega),(by have:=hi.out;omega),hN.out,(by have:=hi.out;have:=He.out;have:=hI.out;simp;omega),Cm.Ew.nil _ _ _ _ _,(λj e=>by cases e),Hc.out.below ((Below.refl W0.heap.size W0).alloc (Nat.le_refl _) _) (by have:=hI.out;omega)⟩,
    Nat.zero_le _,Bar.refl _ _ _,⟨l.length,Nat.le_refl _,rfl⟩⟩)
 have Y1:=hid (X1.out.alloc (.cells #[.pointer (some ⟨d,0,none⟩),.slice A n c,.slice none 0 0,.int .i64 0] 255));have Y2:=hid (X2.out.alloc (.cells #[.pointer (some ⟨d,0,none⟩),.slice A n c,.slice none 0 0,.int .i64 0] 255));have Y0:=hid (X0.out.alloc (.cells #[.pointer (some ⟨d,0,none⟩),.slice A n c,.slice none 0 0,.int .i64 0] 255));have hO:=hid (hS.out.alloc hS.out.size (.cells #[.pointer (some ⟨d,0,none⟩),.slice A n c,.slice none 0 0,.int .i64 0] 255));generalize W0.alloc (.cells #[.pointer (some ⟨d,0,none⟩),.slice A n c,.slice none 0 0,.int .i64 0] 255)=W1 at*
 have hT:w.heap.size+1+1<W0.heap.size:=by omega
 clear d2 x0 hz HZ;generalize W0.heap.size=G at*
 have hh:=hid (show∀j,w.heap.size<=j->¬TX tb r j fromλj hj hx=>by have:=hi.out;rcases hx with hx|hx<;>omega);go_loopw [24] (λ_ wr=>DIA W1 G d tb r t l wr) (λ_ wr=>lenK wr G)
 case atStart=>exact Hg.out
 case round=>
  obtain⟨A1,n1,c1,l1,ov1,out,t1,hj⟩:=hrel;have HJ:=hid hj;have k1:wr.cell? ⟨G,1,none⟩=some (.slice A1 n1 c1):=hj.bk.blk.cell 1;have hU:lenK wr G=n1:=lenK_of k1;obtain⟨Ao,co,H3,Hh,_⟩:=hj.bk.out_.form;have k2:wr.cell? ⟨G,2,none⟩=some ov1:=hj.bk.blk.cell 2;rw[H3]at k2;have z0:Blk wr w.heap.size 78 #[.pointer (some ⟨d,0,none⟩)]:=hj.low.blk Y0.out (by omega) (hh.out _ (Nat.le_refl _));have z1:Blk wr (w.heap.size+1) 41 #[.slice none 0 0]:=hj.low.blk Y1.out (by omega) (hh.out _ (by omega));have z2:Blk wr (w.heap.size+1+1) 28 #[.nilIface]:=hj.low.blk Y2.out (by omega) (hh.out _ (by omega));have hV:=hid z0;have hP:=hid z1;have hQ:=hid z2;clear hj;cases l1 with
  |nil=>
   obtain rfl:n1=0:=by have:=HJ.out.bk.rd_.1;simpa using this.symm
   have y1:=z1.cell 0;have y2:=z2.cell 0;have f1:=z1.frozen 0;have f2:=z2.frozen 0;simp only[List.getElem?_toArray,List.getElem?_cons_zero]at y1 y2;go_wp2;refine leaves_cons (f:=216) (args:=#[.pointer (some ⟨w.heap.size,0,none⟩),.pointer (some ⟨w.heap.size+1,0,none⟩),.pointer (some ⟨w.heap.size+1+1,0,none⟩)]) (by simp) (by simp[go_sem]) ?_;refine(decode1_idle _ _ _ _).mono ?_;rintro e u' w'' ⟨rfl,rfl,rfl⟩;have Hi:wr.heap.size=((wr.setCell ⟨w.heap.size+1,0,none⟩ (.slice Ao out.length co)).setCell ⟨w.heap.size+1+1,0,none⟩ .nilIface).heap.size:=by simp[World.setCell]
   have H4:=HJ.out.bk.out_;rw[H3]at H4;have Ho:out.length<=1000:=by have h1:=hszs_32 out;have h2:=HJ.out.sz;omega
   have Hj:=H4.rs (λ_=>rfl) (by omega);have hG:=H4.from;have hl:=hi.out;refine⟨_,results_decode _ _ (w.heap.size+1) (w.heap.size+1+1) _ _ rfl rfl (((hP.out.put 0 _).far (p:=⟨w.heap.size+1+1,0,none⟩) (by simp) _).cell 0) (((hQ.out.far (p:=⟨w.heap.size+1,0,none⟩) (by simp) _).put 0 _).cell 0),.inl ⟨out,t1,Ao,co,HJ.out.end_,rfl,Hh,?_,λ_ ad e=>by have:=hG ad e;omega,HJ.out.sz,?_,?_⟩⟩
   · rw[<-Hi]
     exact(Hj.setCell (λad e=>by have:=hG ad e;simp;omega) _).setCell (λad e=>by have:=hG ad e;simp;omega) _
   · exact HJ.out.bk.dt.same ((far_ne (by simp;omega)).trans (far_ne (by simp;omega))) ((far_ne (by simp;omega)).trans (far_ne (by simp;omega))) ((far_ne (by simp;omega)).trans (far_ne (by simp;omega)))
   · exact(((Bar.of hO.out _).trans (HJ.out.low.mono (by omega))).setCell (p:=⟨w.heap.size+1,0,none⟩) (.inl (by simp)) _).setCell (p:=⟨w.heap.size+1+1,0,none⟩) (.inl (by simp;omega)) _
  |cons x l'=>
   obtain⟨k,rfl⟩:∃k,n1=k+1:=⟨l'.length,by have:=HJ.out.bk.rd_.1;simp at this;omega⟩;obtain⟨ad,hA,Hp,hcell⟩:=HJ.out.bk.rd_.at_ (k:=0) (by omega);subst hA;have hcell:wr.cell? ad=some (.int .u8 (x.toNat:Int)):=hcell;have hH:=hid (show x.toNat<256 from x.toNat_lt);have HX:=hid (show((x::l').headD 0).toNat=x.toNat from rfl);have H9:=HJ.out.bk.room.2.2.2;have hW:=hid ((Below.refl wr.heap.size wr).alloc (Nat.le_refl _) (.cells kindC 260));have HQ:=hid (Blk.new wr 260 kindC);clear H3;generalize Hq:x.toNat=xn at*
   go_wp2_with (first
    |(go_at_call 218
      refine Calls.mono (kinds_any _) ?_;rintro e w1 ⟨rfl,hw⟩;rw[<-hw]at hW HQ;clear hw)
    |fail)
   have hR:=hid (HJ.out.bk.below hW.out);have h3:=hid (Bar.below hW.out H9 (TX tb r));have h8:=hid (Nat.le_trans H9 hW.out.size);have Ha:=HQ.out.lt;have hX:=hid (show w1.cell? ad=_ from(World.cell?_of_block (hW.out.block _ (by omega))).trans hcell);have k1':w1.cell? ⟨G,1,none⟩=some (.slice (some ad) (k+1) c1):=hR.out.blk.cell 1;have hY:=hid (show ad.block<w1.heap.size from by omega);have h9:=hid Ha;clear hcell k1 k2 k1' Ha;generalize Hb:wr=wo at*
   have hZ:=hid Hb;clear Hb;go_loopw [27] (λtv wr=>IKt tv (kK xn)/\Below w1.heap.size w1 wr) (λtv _=>ikI tv)
   case atStart=>exact⟨.inl rfl,Below.refl _ _⟩
   case round=>
    obtain⟨H0,h0⟩:=hrel;rcases H0 with rfl|⟨rfl,H0⟩|⟨rfl,H0⟩|⟨rfl,H0⟩|⟨rfl,H0⟩
    · have q0:wr.cell? ⟨wo.heap.size,0,none⟩=some (.int .u8 128):=(HQ.out.below h0 h9.out).cell 0
      have q1:wr.cell? ⟨wo.heap.size,1,none⟩=some (.int .u8 128):=(HQ.out.below h0 h9.out).cell 1;have q2:wr.cell? ⟨wo.heap.size,2,none⟩=some (.func (.func 235) #[] #[]):=(HQ.out.below h0 h9.out).cell 2;have ql:=(HQ.out.below h0 h9.out).lt;have hb:=hid (Blk.new wr 260 #[.int .u8 128,.int .u8 128,.func (.func 235) #[] #[]]);have h6:=hid (h0.alloc h0.size (.cells #[.int .u8 128,.int .u8 128,.func (.func 235) #[] #[]] 260));clear h0;go_upto_region 9 with fail;generalize wr.alloc (.cells #[.int .u8 128,.int .u8 128,.func (.func 235) #[] #[]] 260)=W2 at*
      have v0:W2.cell? ⟨wr.heap.size,0,none⟩=some (.int .u8 128):=hb.out.cell 0;have v1:W2.cell? ⟨wr.heap.size,1,none⟩=some (.int .u8 128):=hb.out.cell 1;have v2:W2.cell? ⟨wr.heap.size,2,none⟩=some (.func (.func 235) #[] #[]):=hb.out.cell 2;have hk:=hid (λj=>hR.out.below (bdN h6.out j));have kk:W2.cell? ⟨G,1,none⟩=some (.slice (some ad) (k+1) c1):=(hk.out 0).blk.cell 1;have kc:W2.cell? ad=some (.int .u8 (xn:Int)):=(World.cell?_of_block (h6.out.block _ hY.out)).trans hX.out;clear q0 q1 q2 ql;by_cases hK:kK xn=0
      · have hF:=hid (show 128<=xn by have h:=hK;unfold kK at h;(repeat' split at h)<;>omega)
        have h7:bits .and .u8 (xn:Int) 128=128:=by have h:=kK_yes hH.out;rw[hK]at h;exact h
        clear hK;go_quiet (fail);go_wp2_with fail;refine Calls.mono (kind1A_any _ G G d tb r (some ad) (k+1) c1 (x::l') ov1 out t1 (hk.out _) HJ.out.sz (by rw[HX.out];exact hF.out)) ?_;intro e w3 hp;rcases hp with⟨out',rest,t',A',n',c',ov',h4,rfl,hm,h5,hs3⟩|⟨h4,⟨a,rfl⟩,⟨t9,ho⟩,h5⟩
        · have hq:=HJ.out.next h4 hm (h3.out.trans (((Bar.of (bdN h6.out _) (TX tb r)).mono h8.out).trans h5)) hs3
          have he:=hid hq;clear hq h4 hm h5 hs3;go_wp2;exact⟨⟨A',n',c',rest,ov',out',t',he.out.1⟩,by rw[lenK_of (he.out.1.bk.blk.cell 1),hZ.out,hU];exact he.out.2⟩
        · have ht:=h3.out.trans (((Bar.of (bdN h6.out _) (TX tb r)).mono h8.out).trans h5)
          have hu:=HJ.out.none_ h4;have HF:=hid (And.intro ht (And.intro hu ho));clear ht hu ho h4 h5;go_wp2_with fail;have hl:=hi.out;have hf:=HJ.out.low.trans HF.out.1;refine leaves_cons (f:=216) (args:=#[.pointer (some ⟨w.heap.size,0,none⟩),.pointer (some ⟨w.heap.size+1,0,none⟩),.pointer (some ⟨w.heap.size+1+1,0,none⟩)]) (by simp) (by simp[go_sem]) ?_;have z1':=HF.out.1.blk hP.out (by omega) (hh.out _ (by omega));have z2':=HF.out.1.blk hQ.out (by omega) (hh.out _ (by omega));have hC:w.heap.size+1≠d/\w.heap.size+1+1≠d/\w.heap.size+1≠w.heap.size+1+1:=by omega
          refine(decode1_fault w3 w.heap.size (w.heap.size+1) (w.heap.size+1+1) d a _ _ _ _ HF.out.2.2.dec (HF.out.1.blk hV.out (by omega) (hh.out _ (Nat.le_refl _))) z1' z2' hC).mono ?_;rintro e u' w'' ⟨rfl,rfl,rfl⟩;have hD:=faultW_cells (a:=a) z1' z2' hC;exact⟨_,results_decode _ _ (w.heap.size+1) (w.heap.size+1+1) _ _ rfl rfl hD.1 hD.2,dec_fault hO.out hf hT (Nat.le_trans HJ.out.bk.room.2.2.2 HF.out.1.size) HF.out.2.2 hi.out hN.out HF.out.2.1⟩
      · obtain⟨v,h7⟩:∃v,bits .and .u8 (xn:Int) 128=v:=⟨_,rfl⟩
        have hJ:¬v=128:=λe=>kK_no hH.out (show 0<kK xn by omega) (by omega) (h7.trans e);have hM:decide (v=128)=false:=by simpa using hJ
        have hL:=hid (show 1<=kK xn by omega);clear hK;go_quiet (fail);go_wp2_with fail;exact⟨⟨.inr (.inl ⟨rfl,hL.out⟩),bdN h6.out _⟩,by simp[ikI]⟩
    · have q0:wr.cell? ⟨wo.heap.size,3,none⟩=some (.int .u8 192):=(HQ.out.below h0 h9.out).cell 3
      have q1:wr.cell? ⟨wo.heap.size,4,none⟩=some (.int .u8 64):=(HQ.out.below h0 h9.out).cell 4;have q2:wr.cell? ⟨wo.heap.size,5,none⟩=some (.func (.func 239) #[] #[]):=(HQ.out.below h0 h9.out).cell 5;have ql:=(HQ.out.below h0 h9.out).lt;have hb:=hid (Blk.new wr 260 #[.int .u8 192,.int .u8 64,.func (.func 239) #[] #[]]);have h6:=hid (h0.alloc h0.size (.cells #[.int .u8 192,.int .u8 64,.func (.func 239) #[] #[]] 260));clear h0;go_upto_region 9 with fail;generalize wr.alloc (.cells #[.int .u8 192,.int .u8 64,.func (.func 239) #[] #[]] 260)=W2 at*
      have v0:W2.cell? ⟨wr.heap.size,0,none⟩=some (.int .u8 192):=hb.out.cell 0;have v1:W2.cell? ⟨wr.heap.size,1,none⟩=some (.int .u8 64):=hb.out.cell 1;have v2:W2.cell? ⟨wr.heap.size,2,none⟩=some (.func (.func 239) #[] #[]):=hb.out.cell 2;have hk:=hid (λj=>hR.out.below (bdN h6.out j));have kk:W2.cell? ⟨G,1,none⟩=some (.slice (some ad) (k+1) c1):=(hk.out 0).blk.cell 1;have kc:W2.cell? ad=some (.int .u8 (xn:Int)):=(World.cell?_of_block (h6.out.block _ hY.out)).trans hX.out;clear q0 q1 q2 ql;by_cases hK:kK xn=1
      · have hF:=hid (show 64<=xn/\¬128<=xn by have h:=hK;unfold kK at h;(repeat' split at h)<;>omega)
        have h7:bits .and .u8 (xn:Int) 192=64:=by have h:=kK_yes hH.out;rw[hK]at h;exact h
        clear hK;go_quiet (fail);go_wp2_with fail;refine Calls.mono (kind2A_any _ G G d tb r (some ad) (k+1) c1 (x::l') ov1 out t1 (hk.out _) HJ.out.sz (by rw[HX.out];exact hF.out.1) (by rw[HX.out];exact hF.out.2)) ?_;intro e w3 hp;rcases hp with⟨out',rest,t',A',n',c',ov',h4,rfl,hm,h5,hs3⟩|⟨h4,⟨a,rfl⟩,⟨t9,ho⟩,h5⟩
        · have hq:=HJ.out.next h4 hm (h3.out.trans (((Bar.of (bdN h6.out _) (TX tb r)).mono h8.out).trans h5)) hs3
          have he:=hid hq;clear hq h4 hm h5 hs3;go_wp2;exact⟨⟨A',n',c',rest,ov',out',t',he.out.1⟩,by rw[lenK_of (he.out.1.bk.blk.cell 1),hZ.out,hU];exact he.out.2⟩
        · have ht:=h3.out.trans (((Bar.of (bdN h6.out _) (TX tb r)).mono h8.out).trans h5)
          have hu:=HJ.out.none_ h4;have HF:=hid (And.intro ht (And.intro hu ho));clear ht hu ho h4 h5;go_wp2_with fail;have hl:=hi.out;have hf:=HJ.out.low.trans HF.out.1;refine leaves_cons (f:=216) (args:=#[.pointer (some ⟨w.heap.size,0,none⟩),.pointer (some ⟨w.heap.size+1,0,none⟩),.pointer (some ⟨w.heap.size+1+1,0,none⟩)]) (by simp) (by simp[go_sem]) ?_;have z1':=HF.out.1.blk hP.out (by omega) (hh.out _ (by omega));have z2':=HF.out.1.blk hQ.out (by omega) (hh.out _ (by omega));have hC:w.heap.size+1≠d/\w.heap.size+1+1≠d/\w.heap.size+1≠w.heap.size+1+1:=by omega
          refine(decode1_fault w3 w.heap.size (w.heap.size+1) (w.heap.size+1+1) d a _ _ _ _ HF.out.2.2.dec (HF.out.1.blk hV.out (by omega) (hh.out _ (Nat.le_refl _))) z1' z2' hC).mono ?_;rintro e u' w'' ⟨rfl,rfl,rfl⟩;have hD:=faultW_cells (a:=a) z1' z2' hC;exact⟨_,results_decode _ _ (w.heap.size+1) (w.heap.size+1+1) _ _ rfl rfl hD.1 hD.2,dec_fault hO.out hf hT (Nat.le_trans HJ.out.bk.room.2.2.2 HF.out.1.size) HF.out.2.2 hi.out hN.out HF.out.2.1⟩
      · obtain⟨v,h7⟩:∃v,bits .and .u8 (xn:Int) 192=v:=⟨_,rfl⟩
        have hJ:¬v=64:=λe=>kK_no hH.out (show 1<kK xn by omega) (by omega) (h7.trans e);have hM:decide (v=64)=false:=by simpa using hJ
        have hL:=hid (show 2<=kK xn by omega);clear hK;go_quiet (fail);go_wp2_with fail;exact⟨⟨.inr (.inr (.inl ⟨rfl,hL.out⟩)),bdN h6.out _⟩,by simp[ikI]⟩
    · have q0:wr.cell? ⟨wo.heap.size,6,none⟩=some (.int .u8 224):=(HQ.out.below h0 h9.out).cell 6
      have q1:wr.cell? ⟨wo.heap.size,7,none⟩=some (.int .u8 32):=(HQ.out.below h0 h9.out).cell 7;have q2:wr.cell? ⟨wo.heap.size,8,none⟩=some (.func (.func 241) #[] #[]):=(HQ.out.below h0 h9.out).cell 8;have ql:=(HQ.out.below h0 h9.out).lt;have hb:=hid (Blk.new wr 260 #[.int .u8 224,.int .u8 32,.func (.func 241) #[] #[]]);have h6:=hid (h0.alloc h0.size (.cells #[.int .u8 224,.int .u8 32,.func (.func 241) #[] #[]] 260));clear h0;go_upto_region 9 with fail;generalize wr.alloc (.cells #[.int .u8 224,.int .u8 32,.func (.func 241) #[] #[]] 260)=W2 at*
      have v0:W2.cell? ⟨wr.heap.size,0,none⟩=some (.int .u8 224):=hb.out.cell 0;have v1:W2.cell? ⟨wr.heap.size,1,none⟩=some (.int .u8 32):=hb.out.cell 1;have v2:W2.cell? ⟨wr.heap.size,2,none⟩=some (.func (.func 241) #[] #[]):=hb.out.cell 2;have hk:=hid (λj=>hR.out.below (bdN h6.out j));have kk:W2.cell? ⟨G,1,none⟩=some (.slice (some ad) (k+1) c1):=(hk.out 0).blk.cell 1;have kc:W2.cell? ad=some (.int .u8 (xn:Int)):=(World.cell?_of_block (h6.out.block _ hY.out)).trans hX.out;clear q0 q1 q2 ql;by_cases hK:kK xn=2
      · have hF:=hid (show 32<=xn/\¬64<=xn by have h:=hK;unfold kK at h;(repeat' split at h)<;>omega)
        have h7:bits .and .u8 (xn:Int) 224=32:=by have h:=kK_yes hH.out;rw[hK]at h;exact h
        clear hK;go_quiet (fail);go_wp2_with fail;refine Calls.mono (kind3A_any _ G G d tb r (some ad) (k+1) c1 (x::l') ov1 out t1 (hk.out _) HJ.out.sz (by rw[HX.out];exact hF.out.1) (by rw[HX.out];exact hF.out.2)) ?_;intro e w3 hp;rcases hp with⟨out',rest,t',A',n',c',ov',h4,rfl,hm,h5,hs3⟩|⟨h4,⟨a,rfl⟩,⟨t9,ho⟩,h5⟩
        · have hq:=HJ.out.next h4 hm (h3.out.trans (((Bar.of (bdN h6.out _) (TX tb r)).mono h8.out).trans h5)) hs3
          have he:=hid hq;clear hq h4 hm h5 hs3;go_wp2;exact⟨⟨A',n',c',rest,ov',out',t',he.out.1⟩,by rw[lenK_of (he.out.1.bk.blk.cell 1),hZ.out,hU];exact he.out.2⟩
        · have ht:=h3.out.trans (((Bar.of (bdN h6.out _) (TX tb r)).mono h8.out).trans h5)
          have hu:=HJ.out.none_ h4;have HF:=hid (And.intro ht (And.intro hu ho));clear ht hu ho h4 h5;go_wp2_with fail;have hl:=hi.out;have hf:=HJ.out.low.trans HF.out.1;refine leaves_cons (f:=216) (args:=#[.pointer (some ⟨w.heap.size,0,none⟩),.pointer (some ⟨w.heap.size+1,0,none⟩),.pointer (some ⟨w.heap.size+1+1,0,none⟩)]) (by simp) (by simp[go_sem]) ?_;have z1':=HF.out.1.blk hP.out (by omega) (hh.out _ (by omega));have z2':=HF.out.1.blk hQ.out (by omega) (hh.out _ (by omega));have hC:w.heap.size+1≠d/\w.heap.size+1+1≠d/\w.heap.size+1≠w.heap.size+1+1:=by omega
          refine(decode1_fault w3 w.heap.size (w.heap.size+1) (w.heap.size+1+1) d a _ _ _ _ HF.out.2.2.dec (HF.out.1.blk hV.out (by omega) (hh.out _ (Nat.le_refl _))) z1' z2' hC).mono ?_;rintro e u' w'' ⟨rfl,rfl,rfl⟩;have hD:=faultW_cells (a:=a) z1' z2' hC;exact⟨_,results_decode _ _ (w.heap.size+1) (w.heap.size+1+1) _ _ rfl rfl hD.1 hD.2,dec_fault hO.out hf hT (Nat.le_trans HJ.out.bk.room.2.2.2 HF.out.1.size) HF.out.2.2 hi.out hN.out HF.out.2.1⟩
      · obtain⟨v,h7⟩:∃v,bits .and .u8 (xn:Int) 224=v:=⟨_,rfl⟩
        have hJ:¬v=32:=λe=>kK_no hH.out (show 2<kK xn by omega) (by omega) (h7.trans e);have hM:decide (v=32)=false:=by simpa using hJ
        have hL:=hid (show 3<=kK xn by omega);clear hK;go_quiet (fail);go_wp2_with fail;exact⟨⟨.inr (.inr (.inr (.inl ⟨rfl,hL.out⟩))),bdN h6.out _⟩,by simp[ikI]⟩
    · have q0:wr.cell? ⟨wo.heap.size,9,none⟩=some (.int .u8 240):=(HQ.out.below h0 h9.out).cell 9
      have q1:wr.cell? ⟨wo.heap.size,10,none⟩=some (.int .u8 16):=(HQ.out.below h0 h9.out).cell 10;have q2:wr.cell? ⟨wo.heap.size,11,none⟩=some (.func (.func 243) #[] #[]):=(HQ.out.below h0 h9.out).cell 11;have ql:=(HQ.out.below h0 h9.out).lt;have hb:=hid (Blk.new wr 260 #[.int .u8 240,.int .u8 16,.func (.func 243) #[] #[]]);have h6:=hid (h0.alloc h0.size (.cells #[.int .u8 240,.int .u8 16,.func (.func 243) #[] #[]] 260));clear h0;go_upto_region 9 with fail;generalize wr.alloc (.cells #[.int .u8 240,.int .u8 16,.func (.func 243) #[] #[]] 260)=W2 at*
      have v0:W2.cell? ⟨wr.heap.size,0,none⟩=some (.int .u8 240):=hb.out.cell 0;have v1:W2.cell? ⟨wr.heap.size,1,none⟩=some (.int .u8 16):=hb.out.cell 1;have v2:W2.cell? ⟨wr.heap.size,2,none⟩=some (.func (.func 243) #[] #[]):=hb.out.cell 2;have hk:=hid (λj=>hR.out.below (bdN h6.out j));have kk:W2.cell? ⟨G,1,none⟩=some (.slice (some ad) (k+1) c1):=(hk.out 0).blk.cell 1;have kc:W2.cell? ad=some (.int .u8 (xn:Int)):=(World.cell?_of_block (h6.out.block _ hY.out)).trans hX.out;clear q0 q1 q2 ql;by_cases hK:kK xn=3
      · have hF:=hid (show 16<=xn/\¬32<=xn by have h:=hK;unfold kK at h;(repeat' split at h)<;>omega)
        have h7:bits .and .u8 (xn:Int) 240=16:=by have h:=kK_yes hH.out;rw[hK]at h;exact h
        clear hK;go_quiet (fail);go_wp2_with fail;refine Calls.mono (kind4A_any _ G G d tb r (some ad) (k+1) c1 (x::l') ov1 out t1 (hk.out _) HJ.out.sz (by rw[HX.out];exact hF.out.1) (by rw[HX.out];exact hF.out.2)) ?_;intro e w3 hp;rcases hp with⟨out',rest,t',A',n',c',ov',h4,rfl,hm,h5,hs3⟩|⟨h4,⟨a,rfl⟩,⟨t9,ho⟩,h5⟩
        · have hq:=HJ.out.next h4 hm (h3.out.trans (((Bar.of (bdN h6.out _) (TX tb r)).mono h8.out).trans h5)) hs3
          have he:=hid hq;clear hq h4 hm h5 hs3;go_wp2;exact⟨⟨A',n',c',rest,ov',out',t',he.out.1⟩,by rw[lenK_of (he.out.1.bk.blk.cell 1),hZ.out,hU];exact he.out.2⟩
        · have ht:=h3.out.trans (((Bar.of (bdN h6.out _) (TX tb r)).mono h8.out).trans h5)
          have hu:=HJ.out.none_ h4;have HF:=hid (And.intro ht (And.intro hu ho));clear ht hu ho h4 h5;go_wp2_with fail;have hl:=hi.out;have hf:=HJ.out.low.trans HF.out.1;refine leaves_cons (f:=216) (args:=#[.pointer (some ⟨w.heap.size,0,none⟩),.pointer (some ⟨w.heap.size+1,0,none⟩),.pointer (some ⟨w.heap.size+1+1,0,none⟩)]) (by simp) (by simp[go_sem]) ?_;have z1':=HF.out.1.blk hP.out (by omega) (hh.out _ (by omega));have z2':=HF.out.1.blk hQ.out (by omega) (hh.out _ (by omega));have hC:w.heap.size+1≠d/\w.heap.size+1+1≠d/\w.heap.size+1≠w.heap.size+1+1:=by omega
          refine(decode1_fault w3 w.heap.size (w.heap.size+1) (w.heap.size+1+1) d a _ _ _ _ HF.out.2.2.dec (HF.out.1.blk hV.out (by omega) (hh.out _ (Nat.le_refl _))) z1' z2' hC).mono ?_;rintro e u' w'' ⟨rfl,rfl,rfl⟩;have hD:=faultW_cells (a:=a) z1' z2' hC;exact⟨_,results_decode _ _ (w.heap.size+1) (w.heap.size+1+1) _ _ rfl rfl hD.1 hD.2,dec_fault hO.out hf hT (Nat.le_trans HJ.out.bk.room.2.2.2 HF.out.1.size) HF.out.2.2 hi.out hN.out HF.out.2.1⟩
      · obtain⟨v,h7⟩:∃v,bits .and .u8 (xn:Int) 240=v:=⟨_,rfl⟩
        have hJ:¬v=16:=λe=>kK_no hH.out (show 3<kK xn by omega) (by omega) (h7.trans e);have hM:decide (v=16)=false:=by simpa using hJ
        have hL:=hid (show 4<=kK xn by omega);clear hK;go_quiet (fail);go_wp2_with fail;exact⟨⟨.inr (.inr (.inr (.inr ⟨rfl,hL.out⟩))),bdN h6.out _⟩,by simp[ikI]⟩
    · have q0:wr.cell? ⟨wo.heap.size,12,none⟩=some (.int .u8 240):=(HQ.out.below h0 h9.out).cell 12
      have q1:wr.cell? ⟨wo.heap.size,13,none⟩=some (.int .u8 0):=(HQ.out.below h0 h9.out).cell 13;have q2:wr.cell? ⟨wo.heap.size,14,none⟩=some (.func (.func 244) #[] #[]):=(HQ.out.below h0 h9.out).cell 14;have ql:=(HQ.out.below h0 h9.out).lt;have hb:=hid (Blk.new wr 260 #[.int .u8 240,.int .u8 0,.func (.func 244) #[] #[]]);have h6:=hid (h0.alloc h0.size (.cells #[.int .u8 240,.int .u8 0,.func (.func 244) #[] #[]] 260));clear h0;go_upto_region 9 with fail;generalize wr.alloc (.cells #[.int .u8 240,.int .u8 0,.func (.func 244) #[] #[]] 260)=W2 at*
      have v0:W2.cell? ⟨wr.heap.size,0,none⟩=some (.int .u8 240):=hb.out.cell 0;have v1:W2.cell? ⟨wr.heap.size,1,none⟩=some (.int .u8 0):=hb.out.cell 1;have v2:W2.cell? ⟨wr.heap.size,2,none⟩=some (.func (.func 244) #[] #[]):=hb.out.cell 2;have hk:=hid (λj=>hR.out.below (bdN h6.out j));have kk:W2.cell? ⟨G,1,none⟩=some (.slice (some ad) (k+1) c1):=(hk.out 0).blk.cell 1;have kc:W2.cell? ad=some (.int .u8 (xn:Int)):=(World.cell?_of_block (h6.out.block _ hY.out)).trans hX.out;clear q0 q1 q2 ql;have hK:kK xn=4:=by have:=kK_5 xn;omega
      have hF:=hid (show¬16<=xn by have h:=hK;unfold kK at h;(repeat' split at h)<;>omega);have h7:bits .and .u8 (xn:Int) 240=0:=by have h:=kK_yes hH.out;rw[hK]at h;exact h
      clear hK;go_quiet (fail);go_wp2_with fail;refine Calls.mono (kind5A_any _ G G d tb r (some ad) (k+1) c1 (x::l') ov1 out t1 (hk.out _) HJ.out.sz (by rw[HX.out];exact hF.out)) ?_;intro e w3 hp;rcases hp with⟨out',rest,t',A',n',c',ov',h4,rfl,hm,h5,hs3⟩|⟨h4,⟨a,rfl⟩,⟨t9,ho⟩,h5⟩
      · have hq:=HJ.out.next h4 hm (h3.out.trans (((Bar.of (bdN h6.out _) (TX tb r)).mono h8.out).trans h5)) hs3
        have he:=hid hq;clear hq h4 hm h5 hs3;go_wp2;exact⟨⟨A',n',c',rest,ov',out',t',he.out.1⟩,by rw[lenK_of (he.out.1.bk.blk.cell 1),hZ.out,hU];exact he.out.2⟩
      · have ht:=h3.out.trans (((Bar.of (bdN h6.out _) (TX tb r)).mono h8.out).trans h5)
        have hu:=HJ.out.none_ h4;have HF:=hid (And.intro ht (And.intro hu ho));clear ht hu ho h4 h5;go_wp2_with fail;have hl:=hi.out;have hf:=HJ.out.low.trans HF.out.1;refine leaves_cons (f:=216) (args:=#[.pointer (some ⟨w.heap.size,0,none⟩),.pointer (some ⟨w.heap.size+1,0,none⟩),.pointer (some ⟨w.heap.size+1+1,0,none⟩)]) (by simp) (by simp[go_sem]) ?_;have z1':=HF.out.1.blk hP.out (by omega) (hh.out _ (by omega));have z2':=HF.out.1.blk hQ.out (by omega) (hh.out _ (by omega));have hC:w.heap.size+1≠d/\w.heap.size+1+1≠d/\w.heap.size+1≠w.heap.size+1+1:=by omega
        refine(decode1_fault w3 w.heap.size (w.heap.size+1) (w.heap.size+1+1) d a _ _ _ _ HF.out.2.2.dec (HF.out.1.blk hV.out (by omega) (hh.out _ (Nat.le_refl _))) z1' z2' hC).mono ?_;rintro e u' w'' ⟨rfl,rfl,rfl⟩;have hD:=faultW_cells (a:=a) z1' z2' hC;exact⟨_,results_decode _ _ (w.heap.size+1) (w.heap.size+1+1) _ _ rfl rfl hD.1 hD.2,dec_fault hO.out hf hT (Nat.le_trans HJ.out.bk.room.2.2.2 HF.out.1.size) HF.out.2.2 hi.out hN.out HF.out.2.1⟩
end Go.Proofs.YtkpppjhbmnfmkaaGreatDoor
end
