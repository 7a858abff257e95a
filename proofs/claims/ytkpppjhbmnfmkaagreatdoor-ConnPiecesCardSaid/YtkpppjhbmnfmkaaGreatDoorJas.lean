/-
  
  
  
  
  
  
  
  
-/
import Derived.Test.YtkpppjhbmnfmkaaGreatDoorJar
import Derived.StillTailTactics
import Derived.Recover
import Derived.Defers
set_option linter.unusedSimpArgs false
set_option linter.unusedVariables false
section
set_option maxHeartbeats 4000000
set_option maxRecDepth 100000
namespace Go.Proofs.YtkpppjhbmnfmkaaGreatDoor
open Lib (hid)
open Go.RowKit Go.Own Go.Own.Cx
attribute [local go_sem] Oper.semAt_some
theorem tfits_any (n:Nat) (hn:n<=4096) (w:World):Calls Tryz.prog 99 #[.int .i64 (n:Nat)] w λe w'=>e= .returned (.bool true)/\w'=w:=by
 have h1:(n:Int)<=4096:=by omega
 go_enter Tryz.func99,Tryz.ntmps99;go_wp2;go_ret;exact⟨by simp[hn],rfl⟩
theorem tresize_any (w:World) (g r:Nat) (E:List Hd.HdrV) (mo n:Nat) (ht:TabR w g r E mo) (hn:n<=4096):
 Calls Tryz.prog 220 #[.pointer (some ⟨g,0,none⟩),.int .i64 (n:Nat)] w λe w'=>e= .returned .nilIface/\TabR w' g r (Hk.TM.resize ⟨E,mo⟩ n).E n/\Bar (λj=>j=g\/j=r) w.heap.size w w':=by
 have HF:=hid (tfits_any n hn w);obtain⟨old,cs,h2,h3,h0,hsz⟩:=ht;have g4:w.cell? ⟨g,4,none⟩=some (.int .i64 (mo:Nat)):=h2.cell 4;have gf4:=h2.frozen 4;have h9:=h2.lt;have h1:=h2.put 4 (.int .i64 (n:Nat));simp only[List.setIfInBounds_toArray,List.set_cons_zero,List.set_cons_succ]at h1;have HT:=hid (show TabR (w.setCell ⟨g,4,none⟩ (.int .i64 (n:Nat))) g r E n from⟨old,cs,h1,h3.far (p:=⟨g,4,none⟩) (λe=>blk_ne h2 h3 (by decide) e.symm) _,h0,hsz⟩);have HB:=hid ((Bar.refl (λj=>j=g\/j=r) w.heap.size w).setCell (p:=⟨g,4,none⟩) (.inr (.inl rfl)) (.int .i64 (n:Nat)));have hz:(w.setCell ⟨g,4,none⟩ (.int .i64 (n:Nat))).heap.size=w.heap.size:=by simp[World.setCell]
 have h4:=hid (shrink_any _ g r E n (n:Int) HT.out (by simp[Lit.wf,IntKind.min,IntKind.max,IntKind.bits,IntKind.signed];omega));rw[hz,shrI_nat]at h4;clear h2 h3 h0 hsz h1 hz;go_enter Tryz.func220,Tryz.ntmps220;go_wp2_with (first
  |(go_at_call 99
    with_reducible refine Calls.mono HF.out ?_
    rintro e w1 ⟨rfl,hw⟩;subst w1)
  |(go_at_call 171
    with_reducible refine Calls.mono h4.out ?_
    rintro e w2 ⟨rfl,h5,h6⟩;have h7:=hid h5;have h8:=hid h6;clear h5 h6)
  |fail)
 go_ret;exact⟨rfl,h7.out,HB.out.trans h8.out⟩
def GetPost (t:Hk.TM) (i:Nat) (w:World) (e:Ending) (w':World):Prop:=
 Below w.heap.size w w'/\((∃h,t.get i=some h/\e= .returned (.tuple #[.agg (hdrC h),.bool true]))\/(t.get i=none/\∃h,e= .returned (.tuple #[.agg (hdrC h),.bool false])))
theorem statH_len:Hk.statH.length=61:=by kernel_rfl
theorem tgetA_any (w:World) (g r:Nat) (E:List Hd.HdrV) (mo i:Nat) (ht:TabR w g r E mo) (hi:i<=1000000000000) (hE:HpE w):
 Calls Tryz.prog 170 #[.pointer (some ⟨g,0,none⟩),.int .i64 (i:Nat)] w (GetPost ⟨E,mo⟩ i w):=by
 have h4:=hid ((Below.refl w.heap.size w).alloc (Nat.le_refl _) (.cells #[.string ⟨#[]⟩,.string ⟨#[]⟩,.bool false] 63));have HX:=hid (Blk.new w 63 #[.string ⟨#[]⟩,.string ⟨#[]⟩,.bool false]);obtain⟨m,hm⟩:=hE.max;have hg:13<w.heap.size:=World.block_lt_of_cell? w _ hm;have HL:=hid ht.lt;have HT:=hid (ht.below h4.out ht.lt.1 ht.lt.2);have h8:(w.alloc (.cells #[.string ⟨#[]⟩,.string ⟨#[]⟩,.bool false] 63)).cell? ⟨13,0,none⟩=some (.int .i64 m):=(World.cell?_of_block (h4.out.block _ hg)).trans hm;by_cases ho:i<=61
 · have hf:(i:Int)<=61:=by omega
   have HS:Hid (Calls Tryz.prog 212 #[.int .i64 (i:Nat)] (w.alloc (.cells #[.string ⟨#[]⟩,.string ⟨#[]⟩,.bool false] 63)) λe w'=>∃(h:Hd.HdrV) (b:Bool),e= .returned (.tuple #[.agg (hdrC h),.bool b])/\((b=true/\Hk.TM.get ⟨E,mo⟩ i=some h)\/(b=false/\Hk.TM.get ⟨E,mo⟩ i=none))/\Below (w.alloc (.cells #[.string ⟨#[]⟩,.string ⟨#[]⟩,.bool false] 63)).heap.size (w.alloc (.cells #[.string ⟨#[]⟩,.string ⟨#[]⟩,.bool false] 63)) w'):=by
    rcases Nat.eq_zero_or_pos i with h0|h0
    · subst h0
      refine hid ((static0_any _).mono ?_);rintro e w' ⟨rfl,hb⟩;exact⟨⟨⟨#[]⟩,⟨#[]⟩,false⟩,false,rfl,.inr ⟨rfl,rfl⟩,hb⟩
    · have hj:i-1<Hk.statH.length:=by rw[statH_len];omega
      refine hid ((staticA_any i (i-1) (by omega) _ (List.getElem?_eq_getElem hj) _ m h8).mono ?_);rintro e w' ⟨rfl,hb⟩;refine⟨_,true,rfl,.inl ⟨rfl,?_⟩,hb⟩;unfold Hk.TM.get Hk.TM.all;rw[if_neg (by omega),List.getElem?_append_left hj,List.getElem?_eq_getElem hj]
   clear hm hg h8 ht hi hE;go_enter Tryz.func170,Tryz.ntmps170;go_upto_region 1 with fail;generalize w.alloc (.cells #[.string ⟨#[]⟩,.string ⟨#[]⟩,.bool false] 63)=W0 at*
   go_wp2_with fail;refine HS.out.mono ?_;rintro e w1 ⟨h,b,rfl,hq,hb⟩;obtain⟨hn,hv,hne⟩:=h;simp only[hdrC];have hG:=hid (h4.out.trans (hb.mono h4.out.size));have h3:=hid (HX.out.below hb HX.out.lt);have HR:=hid hq;clear hb hq;have x0:=h3.out.cell 0;have x1:=h3.out.cell 1;have x2:=h3.out.cell 2;have xf:=h3.out.frozen 0;have xf1:=h3.out.frozen 1;have xf2:=h3.out.frozen 2;simp only[List.getElem?_toArray,List.getElem?_cons_zero,List.getElem?_cons_succ]at x0 x1 x2;go_wp2;refine bodyPost_ret (results_tget _ _ w.heap.size _ _ _ _ rfl rfl (Blk3 h3.out rfl _ _ _)) rfl ⟨below3 hG.out (Nat.le_refl _) _ _ _,?_⟩;rcases HR.out with⟨rfl,hg⟩|⟨rfl,hg⟩
   · exact .inl ⟨⟨hn,hv,hne⟩,hg,rfl⟩
   · exact .inr ⟨hg,⟨hn,hv,hne⟩,rfl⟩
 · have hf:¬(i:Int)<=61:=by omega
   obtain⟨old,cs,h2,h9,h1,hsz⟩:=HT.out;obtain⟨ln,h6⟩:∃ln,E.length=ln:=⟨_,rfl⟩;have hH:wrap64 (61+(ln:Int))=((61+ln:Nat):Int):=by have:=h1.le;unfold wrap64;omega
   by_cases hk:61+ln<i
   · have hI:((61+ln:Nat):Int)<(i:Int):=by omega
     have hl:(61:Int)+(ln:Int)<(i:Int):=by omega
     have HG:=hid (show Hk.TM.get ⟨E,mo⟩ i=none by
      unfold Hk.TM.get Hk.TM.all;rw[if_neg (by omega),List.getElem?_eq_none];rw[List.length_append,statH_len,List.length_reverse];show 61+E.length<=i-1;omega)
     have g2:(w.alloc (.cells #[.string ⟨#[]⟩,.string ⟨#[]⟩,.bool false] 63)).cell? ⟨g,2,none⟩=some (.int .i64 (ln:Nat)):=by rw[<-h6];exact h2.cell 2
     have hJ:=h2.lt;clear hm hg h8 ht hi hE h2 h9 h1 hsz h6 ho;go_enter Tryz.func170,Tryz.ntmps170;go_upto_region 1 with fail;generalize w.alloc (.cells #[.string ⟨#[]⟩,.string ⟨#[]⟩,.bool false] 63)=W0 at*
     have x0:=HX.out.cell 0;have x1:=HX.out.cell 1;have x2:=HX.out.cell 2;have xf:=HX.out.frozen 0;have xf1:=HX.out.frozen 1;have xf2:=HX.out.frozen 2;have xl:=HX.out.lt;simp only[List.getElem?_toArray,List.getElem?_cons_zero,List.getElem?_cons_succ]at x0 x1 x2;go_wp2;exact bodyPost_ret (results_tget _ _ w.heap.size _ _ _ _ rfl rfl (Blk3 HX.out rfl _ _ _)) rfl ⟨below3 h4.out (Nat.le_refl _) _ _ _,.inr ⟨HG.out,⟨⟨#[]⟩,⟨#[]⟩,false⟩,rfl⟩⟩
   · have hI:¬((61+ln:Nat):Int)<(i:Int):=by omega
     have hl:¬(61:Int)+(ln:Int)<(i:Int):=by omega
     obtain⟨j,hj⟩:∃j,i-62=j:=⟨_,rfl⟩;have hK:j<ln:=by omega
     have hs:ln-1-j<E.length:=by omega
     obtain⟨h,hh⟩:∃h,E[ln-1-j]?=some h:=⟨_,List.getElem?_eq_getElem hs⟩;have HG:=hid (show Hk.TM.get ⟨E,mo⟩ i=some h by
      unfold Hk.TM.get Hk.TM.all;rw[if_neg (by omega),List.getElem?_append_right (by rw[statH_len];omega),statH_len];show E.reverse[i-1-61]?=_;rw[List.getElem?_reverse (by omega),<-hh]
      congr 1
      omega)
     have hc:=h1.at_ _ _ hh;obtain⟨p,hp⟩:∃p,(old+(ln-1-j)) % 128=p:=⟨_,rfl⟩;have hF:p<128:=by rw[<-hp];exact Nat.mod_lt _ (by omega)
     have hO:(p:Int)<128:=by omega
     rw[hp]at hc;have hL:=h1.le;have e1:wrap64 ((i:Int)-61)=((i-61:Nat):Int):=by unfold wrap64;omega
     have e2:wrap64 (((i-61:Nat):Int)-1)=(j:Int):=by unfold wrap64;omega
     have e3:IntKind.i64.wrap ((i:Int)-61)=((i-61:Nat):Int):=by rw[IntKind.wrap_i64];omega
     have e4:IntKind.i64.wrap (((i-61:Nat):Int)-1)=(j:Int):=by rw[IntKind.wrap_i64];omega
     obtain⟨a,ha⟩:∃a,i-61=a:=⟨_,rfl⟩;rw[ha]at e1 e2 e3 e4;obtain⟨hn,hv,hne⟩:=h;have HK:=hid h2;have h7:=hid h9;have hM:Hid (∀k,Calls Tryz.prog 172 #[.pointer (some ⟨g,0,none⟩),.int .i64 (j:Nat)] ((w.alloc (.cells #[.string ⟨#[]⟩,.string ⟨#[]⟩,.bool false] 63)).drewN k) λe w'=>e= .returned (.int .i64 (p:Nat))/\∃n,w'=(w.alloc (.cells #[.string ⟨#[]⟩,.string ⟨#[]⟩,.bool false] 63)).drewN n):=hid (λk=>by
      have h:=tat_any _ g r old E.length j _ _ (h2.drewN k) h1.lt (by omega) (by omega);rw[show(old+E.length-1-j) % 128=p by rw[<-hp,h6];congr 1;omega]at h;refine h.mono ?_;rintro e w' ⟨rfl,n,rfl⟩;exact⟨rfl,drewN_post _ _ _⟩)
     have g2:(w.alloc (.cells #[.string ⟨#[]⟩,.string ⟨#[]⟩,.bool false] 63)).cell? ⟨g,2,none⟩=some (.int .i64 (ln:Nat)):=by rw[<-h6];exact h2.cell 2
     have hJ:=h2.lt;have h5:=hid hc;have hu:=hid (show w.heap.size≠g/\w.heap.size≠r by have:=HL.out;omega);have hN:=hH;clear hm hg h8 ht hi hE h2 h9 h1 hsz h6 ho hk hj hK hs hh hc hp hL ha;go_enter Tryz.func170,Tryz.ntmps170;go_upto_region 1 with fail;generalize w.alloc (.cells #[.string ⟨#[]⟩,.string ⟨#[]⟩,.bool false] 63)=W0 at*
     have hA:=hid (show W0.cell? ⟨g,0,none⟩=some (.slice (some ⟨r,0,none⟩) 128 128)/\W0.cell? ⟨r,p*3,none⟩=some (.string hn)/\W0.cell? ⟨r,p*3+1,none⟩=some (.string hv)/\W0.cell? ⟨r,p*3+2,none⟩=some (.bool hne)from⟨HK.out.cell 0,(h7.out.cell _).trans h5.out.1,(h7.out.cell _).trans h5.out.2.1,(h7.out.cell _).trans h5.out.2.2⟩);have hC:=hid (λk=>(show(W0.drewN k).cell? ⟨g,0,none⟩=some (.slice (some ⟨r,0,none⟩) 128 128)/\(W0.drewN k).cell? ⟨r,p*3,none⟩=some (.string hn)/\(W0.drewN k).cell? ⟨r,p*3+1,none⟩=some (.string hv)/\(W0.drewN k).cell? ⟨r,p*3+2,none⟩=some (.bool hne)from hA.out));have hd:r≠w.heap.size:=λe=>hu.out.2 e.symm;have he:g≠w.heap.size:=λe=>hu.out.1 e.symm;have hD:=hid (λk v0 v1 v2=>(show((((W0.drewN k).setCell ⟨w.heap.size,0,none⟩ v0).setCell ⟨w.heap.size,1,none⟩ v1).setCell ⟨w.heap.size,2,none⟩ v2).cell? ⟨g,0,none⟩=some (.slice (some ⟨r,0,none⟩) 128 128)/\((((W0.drewN k).setCell ⟨w.heap.size,0,none⟩ v0).setCell ⟨w.heap.size,1,none⟩ v1).setCell ⟨w.heap.size,2,none⟩ v2).cell? ⟨r,p*3,none⟩=some (.string hn)/\((((W0.drewN k).setCell ⟨w.heap.size,0,none⟩ v0).setCell ⟨w.heap.size,1,none⟩ v1).setCell ⟨w.heap.size,2,none⟩ v2).cell? ⟨r,p*3+1,none⟩=some (.string hv)/\((((W0.drewN k).setCell ⟨w.heap.size,0,none⟩ v0).setCell ⟨w.heap.size,1,none⟩ v1).setCell ⟨w.heap.size,2,none⟩ v2).cell? ⟨r,p*3+2,none⟩=some (.bool hne)from by
      have k1:=(((HK.out.drewN k).far (p:=⟨w.heap.size,0,none⟩) he v0).far (p:=⟨w.heap.size,1,none⟩) he v1).far (p:=⟨w.heap.size,2,none⟩) he v2;have k2:=(((h7.out.drewN k).far (p:=⟨w.heap.size,0,none⟩) hd v0).far (p:=⟨w.heap.size,1,none⟩) hd v1).far (p:=⟨w.heap.size,2,none⟩) hd v2;exact⟨k1.cell 0,(k2.cell _).trans h5.out.1,(k2.cell _).trans h5.out.2.1,(k2.cell _).trans h5.out.2.2⟩))
     have x0:=HX.out.cell 0;have x1:=HX.out.cell 1;have x2:=HX.out.cell 2;have xf:=HX.out.frozen 0;have xf1:=HX.out.frozen 1;have xf2:=HX.out.frozen 2;have xl:=HX.out.lt;have hP:=h7.out.lt;simp only[List.getElem?_toArray,List.getElem?_cons_zero,List.getElem?_cons_succ]at x0 x1 x2;go_upto_region 5 with fail;go_region_held3 (λW'=>W'.cell? ⟨g,0,none⟩=some (.slice (some ⟨r,0,none⟩) 128 128)/\W'.cell? ⟨r,p*3,none⟩=some (.string hn)/\W'.cell? ⟨r,p*3+1,none⟩=some (.string hv)/\W'.cell? ⟨r,p*3+2,none⟩=some (.bool hne)) (first|with_reducible exact hA.out|with_reducible exact hC.out _|with_reducible exact hD.out _ _ _ _|exact hC.out _|exact hD.out _ _ _ _) (first
      |(go_at_call 172
        refine Calls.mono (hM.out _) ?_;rintro e w6 ⟨rfl,k6,hw⟩;subst w6)
      |fail)
     all_goals
      go_wp2_with fail;exact bodyPost_ret (results_tget _ _ w.heap.size _ _ _ _ rfl rfl (Blk3 (HX.out.drewN k6) rfl _ _ _)) rfl ⟨below3 (bdN h4.out k6) (Nat.le_refl _) _ _ _,.inl ⟨⟨hn,hv,hne⟩,HG.out,rfl⟩⟩
end Go.Proofs.YtkpppjhbmnfmkaaGreatDoor
end

section
set_option maxHeartbeats 2000000
set_option maxRecDepth 100000
namespace Go.Proofs.YtkpppjhbmnfmkaaGreatDoor
open Lib (hid)
open Go.RowKit Go.Own Go.Own.Cx
attribute [local go_sem] Oper.semAt_some
def hflt (a:Addr):List PanicEntry:=[{v:=.iface 279 (.agg #[ev a]),recovered:=false}]
structure DT (w:World) (d tb r:Nat) (t:Hk.TM):Prop where
 dec:Blk w d 137 #[.pointer (some ⟨tb,0,none⟩),.int .i64 4096,.bool false]
 tab:TabR w tb r t.E t.most
 sz:hszs t.E<=t.most
 mo:t.most<=4096
def TX (tb r:Nat):Nat->Prop:=λj=>j=tb\/j=r
structure BR (w:World) (B g d tb r:Nat) (A:Option Addr) (n c:Nat) (l:List UInt8) (ov:Value) (out:List Hd.HdrV) (t:Hk.TM):Prop where
 blk:Blk w g 255 #[.pointer (some ⟨d,0,none⟩),.slice A n c,ov,.int .i64 (hszs out:Nat)]
 hg:B<=g
 le:n<=c
 few:n<=1000000
 rd_:Rd w B A n l
 far:0<n->∀ad,A=some ad->¬TX tb r ad.block
 dt:DT w d tb r t
 lt:d<B/\tb<B/\r<B
 nd:¬TX tb r d
 room:20<=B/\20<=tb/\20<=r/\B<=w.heap.size
 out_:Cm.Ew hdrC 63 3 w B ov out
 ne:∀j,ov.ownBlock=some j->j≠g
 env:HpE w
section
variable {w w':World} {B g d tb r n c:Nat} {A:Option Addr} {l:List UInt8} {ov:Value} {out:List Hd.HdrV} {t:Hk.TM}
theorem DT.below {B:Nat} (h:DT w d tb r t) (hb:Below B w w') (h1:d<B/\tb<B/\r<B):DT w' d tb r t:=⟨h.dec.below hb h1.1,h.tab.below hb h1.2.1 h1.2.2,h.sz,h.mo⟩
theorem BR.below (h:BR w B g d tb r A n c l ov out t) (hb:Below w.heap.size w w'):BR w' B g d tb r A n c l ov out t:=
 ⟨h.blk.below hb h.blk.lt,h.hg,h.le,h.few,h.rd_.below (hb.mono h.room.2.2.2),h.far,h.dt.below (hb.mono h.room.2.2.2) h.lt,h.lt,h.nd,⟨h.room.1,h.room.2.1,h.room.2.2.1,Nat.le_trans h.room.2.2.2 hb.size⟩,h.out_.below hb,h.ne,h.env.below hb (Nat.le_trans h.room.1 h.room.2.2.2)⟩
theorem BR.drewN (h:BR w B g d tb r A n c l ov out t) (k:Nat):BR (w.drewN k) B g d tb r A n c l ov out t:=h.below (bdN (Below.refl _ _) k)
theorem _root_.Go.Own.Cx.Bar.below (h:Below w.heap.size w w') (hB:B<=w.heap.size) (X:Nat->Prop):Bar X B w w':=Bar.of (h.mono hB) X
theorem BR.cut (h:BR w B g d tb r A n c l ov out t) {A':Option Addr} {k:Nat} (hk:k<=n) (hr:Rd w B A' (n-k) (l.drop k)) (hA:(if c=k then A else A.map (·.add k))=A'):
 BR (w.setCell ⟨g,1,none⟩ (.slice A' (n-k) (c-k))) B g d tb r A' (n-k) (c-k) (l.drop k) ov out t/\Bar (TX tb r) B w (w.setCell ⟨g,1,none⟩ (.slice A' (n-k) (c-k))):=by
 have hg:=h.hg;have h0:=h.le;have hb:Below B w (w.setCell ⟨g,1,none⟩ (.slice A' (n-k) (c-k))):=(Below.refl B w).setCell (p:=⟨g,1,none⟩) hg _;refine⟨⟨h.blk.put 1 _,hg,by omega,by have:=h.few;omega,hr.below hb,λhp ad e=>?_,h.dt.below hb h.lt,h.lt,h.nd,⟨h.room.1,h.room.2.1,h.room.2.2.1,by simp[World.setCell];exact h.room.2.2.2⟩,h.out_.grown (grown_setCell (World.grownBy.refl w (some g)) 1 _) (.inr λe=>h.ne g e rfl),h.ne,h.env.below hb h.room.1⟩,Bar.of hb _⟩;subst hA;rw[if_neg (by omega)]at e;cases A with
 |none=>cases e
 |some a0=>
  injection e with e
  have:=h.far (by omega) a0 rfl;rw[<-e,add_block];exact this
end
theorem textP_len2 {l s:List UInt8} {r:List UInt8} (h:Hk.textP l=some (s,r)):∃at_,at_+r.length=l.length/\l.drop at_=r:=by
 unfold Hk.textP at h;cases hi:Hk.intP 7 l with
 |none=>rw[hi]at h;cases h
 |some p=>
  obtain⟨i,q⟩:=p;obtain⟨a,h1,h2,_⟩:=intP_len2 hi;rw[hi]at h;simp only at h;have key:i<=q.length->∃at_,at_+(q.drop i).length=l.length/\l.drop at_=q.drop i:=λhl=>
   ⟨a+i,by rw[List.length_drop];omega,by rw[<-List.drop_drop,h2]⟩
  split at h
  · cases h
  · split at h
    · cases h
    · rename_i hl
      have k:=key (by omega)
      split at h
      · injection h with h;injection h with _ h;subst h;exact k
      · split at h
        · cases h
        · injection h with h;injection h with _ h;subst h;exact k
theorem _root_.Go.Own.Cx.Bar.ofG {w w':World} {B g:Nat} (h:Bar (λj=>j=g) w.heap.size w w') (hg:B<=g) (hB:B<=w.heap.size) (X:Nat->Prop):Bar X B w w':=
 ⟨h.os,h.tape,h.output,h.size,λj hj _=>h.block j (by omega) (by omega)⟩
def FltPost (B d tb r:Nat) (w:World) (e:Ending) (w':World):Prop:=(∃a,e= .panicked (hflt a))/\(∃t,DT w' d tb r t)/\Bar (TX tb r) B w w'
def NumPost (B g d tb r:Nat) (ov:Value) (out:List Hd.HdrV) (t:Hk.TM) (bits:Nat) (l:List UInt8) (w:World) (e:Ending) (w':World):Prop:=
 (∃i rest A' n' c',Hk.intP bits l=some (i,rest)/\e= .returned (.int .i64 (i:Nat))/\BR w' B g d tb r A' n' c' rest ov out t/\Bar (λj=>j=g) w.heap.size w w')\/(Hk.intP bits l=none/\FltPost B d tb r w e w')
def TxtPost (B g d tb r:Nat) (ov:Value) (out:List Hd.HdrV) (t:Hk.TM) (l:List UInt8) (w:World) (e:Ending) (w':World):Prop:=
 (∃s rest A' n' c',Hk.textP l=some (s,rest)/\e= .returned (.string ⟨s.toArray⟩)/\BR w' B g d tb r A' n' c' rest ov out t/\Bar (λj=>j=g) w.heap.size w w')\/(Hk.textP l=none/\FltPost B d tb r w e w')
theorem bnum_any (w:World) (B g d tb r:Nat) (A:Option Addr) (n c:Nat) (l:List UInt8) (ov:Value) (out:List Hd.HdrV) (t:Hk.TM) (bits:Nat) (h:BR w B g d tb r A n c l ov out t) (h3:bits=4\/bits=5\/bits=6\/bits=7):
 Calls Tryz.prog 238 #[.pointer (some ⟨g,0,none⟩),.int .i64 (bits:Nat)] w (NumPost B g d tb r ov out t bits l w):=by
 have HI:=hid (hint_any bits A n c B l w h3 h.rd_ h.le h.few h.env);have HB:=hid h;have c1:w.cell? ⟨g,1,none⟩=some (.slice A n c):=h.blk.cell 1;have f1:=h.blk.frozen 1;have h8:=h.blk.lt;clear h h3;go_enter Tryz.func238,Tryz.ntmps238;go_wp2_with fail;refine HI.out.mono ?_;rintro e w1 ⟨⟨k,rfl⟩,hp⟩;rcases hp with⟨i,rest,hi,rfl⟩|⟨hi,a,rfl⟩
 · obtain⟨at_,h6,h4,h7⟩:=intP_len2 hi
   have hl:=HB.out.rd_.1;have h5:l.length-rest.length=at_:=by omega
   rw[h5];have hk:at_<=n:=by omega
   obtain⟨A',h0⟩:∃A',(if c=at_ then A else A.map λx=>x.add at_)=A':=⟨_,rfl⟩;have hcut:=run_from (P:=Tryz.prog) byteP A n c at_ hk HB.out.le;have h1:=(HB.out.rd_.drewN k).cut (k:=at_) hk HB.out.le;rw[h0]at hcut h1;have HR:=hid ((HB.out.drewN k).cut hk h1 h0);rw[h4]at HR;have h2:=hid hi;clear h6 h4 h7 h5 hi h0 h1 hk hl;go_wp2_with (first
    |(go_at_call 242
      with_reducible refine Calls.mono (hgive_nil _) ?_
      rintro e w1 ⟨rfl,hw⟩;subst w1)
    |fail)
   go_ret;exact .inl ⟨i,rest,A',_,_,h2.out,rfl,HR.out.1,((Bar.refl (λj=>j=g) w.heap.size w).drewN k).setCell (p:=⟨g,1,none⟩) (.inr rfl) _⟩
 · have h2:=hid hi
   clear hi;go_wp2_with (first
    |(go_at_call 242
      refine Calls.mono (hgive_err a _) ?_;rintro e w1 ⟨rfl,hw⟩;subst w1)
    |fail)
   exact⟨rfl,.inr ⟨h2.out,⟨a,rfl⟩,⟨t,(HB.out.drewN k).dt⟩,Bar.of (bdN (Below.refl B w) k) _⟩⟩
theorem btext_any (w:World) (B g d tb r:Nat) (A:Option Addr) (n c:Nat) (l:List UInt8) (ov:Value) (out:List Hd.HdrV) (t:Hk.TM) (h:BR w B g d tb r A n c l ov out t):
 Calls Tryz.prog 257 #[.pointer (some ⟨g,0,none⟩)] w (TxtPost B g d tb r ov out t l w):=by
 have HI:=hid (htext_any A n c B l w h.rd_ h.room.2.2.2 h.le h.few h.env);have HB:=hid h;have c1:w.cell? ⟨g,1,none⟩=some (.slice A n c):=h.blk.cell 1;have h4:=h.blk.lt;clear h;go_enter Tryz.func257,Tryz.ntmps257;go_wp2_with fail;refine HI.out.mono ?_;rintro e w1 ⟨hb,hp⟩;have h0:=hid (HB.out.below hb);have h7:=hid (Bar.below hb HB.out.room.2.2.2 (TX tb r));have h8:=hid hb;clear hb c1 h4;have c1:w1.cell? ⟨g,1,none⟩=some (.slice A n c):=h0.out.blk.cell 1;have f1:=h0.out.blk.frozen 1;have h4:=h0.out.blk.lt;rcases hp with⟨s,rest,hs,rfl⟩|⟨hs,a,rfl⟩
 · obtain⟨at_,h9,h5⟩:=textP_len2 hs
   have hl:=HB.out.rd_.1;have h6:l.length-rest.length=at_:=by omega
   rw[h6];have hk:at_<=n:=by omega
   obtain⟨A',h1⟩:∃A',(if c=at_ then A else A.map λx=>x.add at_)=A':=⟨_,rfl⟩;have hcut:=run_from (P:=Tryz.prog) byteP A n c at_ hk HB.out.le;have h2:=h0.out.rd_.cut (k:=at_) hk HB.out.le;rw[h1]at hcut h2;have HR:=hid (h0.out.cut hk h2 h1);rw[h5]at HR;have h3:=hid hs;clear h9 h5 h6 hs h1 h2 hk hl;go_wp2_with (first
    |(go_at_call 242
      with_reducible refine Calls.mono (hgive_nil _) ?_
      rintro e w1 ⟨rfl,hw⟩;subst hw)
    |fail)
   go_ret;exact .inl ⟨s,rest,A',_,_,h3.out,rfl,HR.out.1,(Bar.of h8.out (λj=>j=g)).setCell (p:=⟨g,1,none⟩) (.inr rfl) _⟩
 · have h3:=hid hs
   clear hs;go_wp2_with (first
    |(go_at_call 242
      refine Calls.mono (hgive_err a _) ?_;rintro e w1 ⟨rfl,hw⟩;subst hw)
    |fail)
   exact⟨rfl,.inr ⟨h3.out,⟨a,rfl⟩,⟨t,h0.out.dt⟩,h7.out⟩⟩
end Go.Proofs.YtkpppjhbmnfmkaaGreatDoor
end

section
set_option maxHeartbeats 4000000
set_option maxRecDepth 100000
namespace Go.Proofs.YtkpppjhbmnfmkaaGreatDoor
open Lib (hid)
open Go.RowKit Go.Own Go.Own.Cx
attribute [local go_sem] Oper.semAt_some
theorem stat_small:Hk.statL.all (λp=>Nat.ble p.1.length 100&&Nat.ble p.2.length 100)=true:=by kernel_rfl
theorem get_small {t:Hk.TM} {i:Nat} {h:Hd.HdrV} (hs:hszs t.E<=4096) (hg:t.get i=some h):h.name.size<=5000/\h.value.size<=5000:=by
 unfold Hk.TM.get at hg
 split at hg
 · cases hg
 · have hm:=List.mem_of_getElem? hg
   unfold Hk.TM.all at hm;rcases List.mem_append.1 hm with hm|hm
   · obtain⟨p,hp,rfl⟩:=List.mem_map.1 hm
     have:=List.all_eq_true.1 stat_small p hp;simp only[Bool.and_eq_true]at this;have h1:=Nat.le_of_ble_eq_true this.1;have h2:=Nat.le_of_ble_eq_true this.2;refine⟨?_,?_⟩
     · show p.1.toArray.size<=5000
       simp;omega
     · show p.2.toArray.size<=5000
       simp;omega
   · have:=hsize_le (List.mem_reverse.1 hm) hs
     omega
theorem dec_len:∀(bs:List Bool) (c n:Nat) (out:List Nat),Hf.dec c n bs=some out->out.length<=bs.length
 |[],c,n,out,h=>by
  rw[Hf.dec]at h;cases hb:(Nat.blt n 8&&Nat.beq c (2^n-1))<;>rw[hb]at h
  · cases h
  · injection h with h;subst h;simp
 |b::bs,c,n,out,h=>by
  rw[Hf.dec]at h;cases hk:Hf.look (2*c+b.toNat) (n+1)with
  |some s=>
   rw[hk]at h;simp only at h;cases hq:Nat.beq s 256<;>rw[hq]at h
   · simp only[cond_false]at h
     cases hd:Hf.dec 0 0 bs with
     |none=>rw[hd]at h;cases h
     |some o=>
      rw[hd]at h;injection h with h
      subst h;have:=dec_len bs 0 0 o hd;simp;omega
   · cases h
  |none=>
   rw[hk]at h;simp only at h;cases hq:Nat.blt (n+1) 30<;>rw[hq]at h
   · cases h
   · have:=dec_len bs _ _ out h
     simp;omega
theorem textP_small {l s r:List UInt8} (h:Hk.textP l=some (s,r)):s.length<=200000:=by
 unfold Hk.textP at h;cases hi:Hk.intP 7 l with
 |none=>rw[hi]at h;cases h
 |some p=>
  obtain⟨i,q⟩:=p;rw[hi]at h;simp only at h
  split at h
  · cases h
  · split at h
    · cases h
    · split at h
      · injection h with h;injection h with h _;subst h
        rw[List.length_take];omega
      · cases hd:Hk.decH (q.take i)with
        |none=>rw[hd]at h;cases h
        |some o=>
         rw[hd]at h;injection h with h;injection h with h _;subst h
         unfold Hk.decH at hd;cases h0:Hf.dec 0 0 (Hf.unpack (q.take i))with
         |none=>rw[h0]at hd;cases hd
         |some o2=>
          rw[h0]at hd;injection hd with hd
          subst hd;have h1:=dec_len _ _ _ _ h0;rw[unpack_len,List.length_take]at h1;rw[List.length_map];omega
def HedPost (B g d tb r:Nat) (A:Option Addr) (n c:Nat) (l:List UInt8) (ov:Value) (out:List Hd.HdrV) (t:Hk.TM) (i:Nat) (w:World) (e:Ending) (w':World):Prop:=
 (∃h,t.get i=some h/\e= .returned (.agg (hdrC h))/\BR w' B g d tb r A n c l ov out t/\Bar (TX tb r) B w w'/\Below w.heap.size w w')\/(t.get i=none/\FltPost B d tb r w e w')
theorem results_named (tmps:Array Value) (w:World) (g:Nat) (a b c:Value) (ht:tmps[4]?=some (.pointer (some ⟨g,0,none⟩))) (hb:Blk w g 63 #[a,b,c]):
 (results Tryz.f240 tmps).run Tryz.prog w= .ok (.agg #[a,b,c]) w:=by
 have c0:w.cell? ⟨g,0,none⟩=some a:=hb.cell 0;have c1:w.cell? ⟨g,1,none⟩=some b:=hb.cell 1;have c2:w.cell? ⟨g,2,none⟩=some c:=hb.cell 2;simp[results,Tryz.results240,go_sem,ht,c0,c1,c2]
theorem bhead_any (w:World) (B g d tb r:Nat) (A:Option Addr) (n c:Nat) (l:List UInt8) (ov:Value) (out:List Hd.HdrV) (t:Hk.TM) (i:Nat) (h:BR w B g d tb r A n c l ov out t) (hi:i<=1000000000000):
 Calls Tryz.prog 237 #[.pointer (some ⟨g,0,none⟩),.int .i64 (i:Nat)] w (HedPost B g d tb r A n c l ov out t i w):=by
 have HX:=hid (Blk.new w 63 #[.string ⟨#[]⟩,.string ⟨#[]⟩,.bool false]);have h3:=hid ((Below.refl w.heap.size w).alloc (Nat.le_refl _) (.cells #[.string ⟨#[]⟩,.string ⟨#[]⟩,.bool false] 63));have HK:=hid (h.below h3.out);have h4:=hid h.room;have HW:=hid h;have HI:=hid hi;clear h hi;go_enter Tryz.func237,Tryz.ntmps237;go_upto_region 1 with fail;generalize w.alloc (.cells #[.string ⟨#[]⟩,.string ⟨#[]⟩,.bool false] 63)=W0 at*
 have c0:W0.cell? ⟨g,0,none⟩=some (.pointer (some ⟨d,0,none⟩)):=HK.out.blk.cell 0;have d0:W0.cell? ⟨d,0,none⟩=some (.pointer (some ⟨tb,0,none⟩)):=HK.out.dt.dec.cell 0;have HG:=hid (tgetA_any W0 tb r t.E t.most i HK.out.dt.tab HI.out HK.out.env);go_wp2_with fail;refine HG.out.mono ?_;rintro e w1 ⟨h1,hp⟩;have h2:=hid (h3.out.trans (h1.mono h3.out.size));have h8:=hid (HK.out.below h1);have h0:=hid (HX.out.below h1 HX.out.lt);clear h1 c0 d0;have x0:=h0.out.cell 0;have x1:=h0.out.cell 1;have x2:=h0.out.cell 2;have xf:=h0.out.frozen 0;have xf1:=h0.out.frozen 1;have xf2:=h0.out.frozen 2;have xl:=h0.out.lt;have xne:¬w.heap.size=w1.heap.size:=by omega
 have xne':¬w1.heap.size=w.heap.size:=by omega
 simp only[List.getElem?_toArray,List.getElem?_cons_zero,List.getElem?_cons_succ]at x0 x1 x2;rcases hp with⟨h,hg,rfl⟩|⟨hg,h,rfl⟩
 · have h5:=hid hg
   clear hg;obtain⟨hn,hv,hne⟩:=h;simp only[hdrC];have h6:=hid (h8.out.below ((Below.refl w1.heap.size w1).alloc (Nat.le_refl _) (.cells #[.string hn,.string hv,.bool hne] 63)));go_wp2_with fail;have h7:=(below3 h2.out (Nat.le_refl _) (.string hn) (.string hv) (.bool hne)).alloc (below3 h2.out (Nat.le_refl _) (.string hn) (.string hv) (.bool hne)).size (.cells #[.string hn,.string hv,.bool hne] 63);refine bodyPost_ret (results_header _ _ w.heap.size _ _ _ rfl ((Blk3 h0.out rfl _ _ _).alloc _)) rfl (.inl ⟨⟨hn,hv,hne⟩,h5.out,rfl,HW.out.below h7,Bar.below h7 h4.out.2.2.2 _,h7⟩)
 · have h5:=hid hg
   clear hg;obtain⟨hn,hv,hne⟩:=h;simp only[hdrC];have h9:=hid ((Below.refl w1.heap.size w1).alloc (Nat.le_refl _) (.cells #[.string hn,.string hv,.bool hne] 63));have h6:=hid (h8.out.below h9.out);obtain⟨a,ha⟩:=h6.out.env.idx;go_upto_region 3 with fail;go_wp2_with (first
    |(go_at_call 242
      refine Calls.mono (hgive_err a _) ?_;rintro e w5 ⟨rfl,hw⟩;subst w5)
    |fail)
   exact⟨rfl,.inr ⟨h5.out,⟨a,rfl⟩,⟨t,h6.out.dt⟩,(Bar.below h2.out h4.out.2.2.2 _).trans (Bar.below h9.out (Nat.le_trans h4.out.2.2.2 h2.out.size) _)⟩⟩
theorem BR.put {w:World} {B g d tb r n c:Nat} {A:Option Addr} {l:List UInt8} {ov:Value} {out:List Hd.HdrV} {t:Hk.TM} (h:BR w B g d tb r A n c l ov out t) {q:Nat} (hq:B<=q) (hg:g≠q) (ho:∀j,ov.ownBlock=some j->j≠q) (i:Nat) (v:Value):BR (w.setCell ⟨q,i,none⟩ v) B g d tb r A n c l ov out t:=by
 have hb:Below B w (w.setCell ⟨q,i,none⟩ v):=(Below.refl B w).setCell (p:=⟨q,i,none⟩) hq _;exact⟨h.blk.far (p:=⟨q,i,none⟩) hg _,h.hg,h.le,h.few,h.rd_.below hb,h.far,h.dt.below hb h.lt,h.lt,h.nd,⟨h.room.1,h.room.2.1,h.room.2.2.1,by simp[World.setCell];exact h.room.2.2.2⟩,h.out_.grown (grown_setCell (World.grownBy.refl w (some q)) i _) (.inr λe=>ho q e rfl),h.ne,h.env.below hb h.room.1⟩
section
variable {bits i:Nat} {t:Hk.TM} {l rest rest2 s:List UInt8} {h:Hd.HdrV}
theorem nam_t (hi:Hk.intP bits l=some (0,rest)) (hs:Hk.textP rest=some (s,rest2)) (v r2:List UInt8) (hv:Hk.textP rest2=some (v,r2)):Hk.namedP bits t l=some ({Hk.hv [] v with name:=⟨s.toArray⟩},r2):=by
 simp[Hk.namedP,hi,hs,hv,Hk.hv]
theorem nam_t0 (hi:Hk.intP bits l=some (0,rest)) (hs:Hk.textP rest=some (s,rest2)) (hv:Hk.textP rest2=none):Hk.namedP bits t l=none:=by
 simp[Hk.namedP,hi,hs,hv]
theorem nam_t1 (hi:Hk.intP bits l=some (0,rest)) (hs:Hk.textP rest=none):Hk.namedP bits t l=none:=by
 simp[Hk.namedP,hi,hs]
theorem nam_i (hi:Hk.intP bits l=some (i,rest)) (h0:i≠0) (hg:t.get i=some h) (v r2:List UInt8) (hv:Hk.textP rest=some (v,r2)):Hk.namedP bits t l=some ({Hk.hv [] v with name:=h.name},r2):=by
 simp[Hk.namedP,hi,h0,hg,hv,Hk.hv]
theorem nam_i0 (hi:Hk.intP bits l=some (i,rest)) (h0:i≠0) (hg:t.get i=some h) (hv:Hk.textP rest=none):Hk.namedP bits t l=none:=by
 simp[Hk.namedP,hi,h0,hg,hv]
theorem nam_i1 (hi:Hk.intP bits l=some (i,rest)) (h0:i≠0) (hg:t.get i=none):Hk.namedP bits t l=none:=by
 simp[Hk.namedP,hi,h0,hg]
end
theorem field_hdr (a b c:Value) (W:World):(Instr.field 63 (.agg #[a,b,c]) 0).run Tryz.prog W= .ok a W:=by
 kernel_rfl
def NamPost (B g d tb r:Nat) (ov:Value) (out:List Hd.HdrV) (t:Hk.TM) (bits:Nat) (l:List UInt8) (w:World) (e:Ending) (w':World):Prop:=
 (∃h rest A' n' c',Hk.namedP bits t l=some (h,rest)/\e= .returned (.agg (hdrC h))/\BR w' B g d tb r A' n' c' rest ov out t/\Bar (TX tb r) B w w'/\h.name.size<=200000/\h.value.size<=200000)\/(Hk.namedP bits t l=none/\FltPost B d tb r w e w')
theorem FltPost.trans {B d tb r:Nat} {w w1 w2:World} {e:Ending} (h:Bar (TX tb r) B w w1) (k:FltPost B d tb r w1 e w2):FltPost B d tb r w e w2:=⟨k.1,k.2.1,h.trans k.2.2⟩
theorem intP_small {bits:Nat} {l:List UInt8} {i:Nat} {r:List UInt8} (h:Hk.intP bits l=some (i,r)):i<=2147483647\/i<2^bits:=by
 have more:∀(k sh n:Nat) (l:List UInt8) (m:Nat) (r:List UInt8),Hk.intMore k sh n l=some (m,r)->m<=2147483647:=by
  intro k
  induction k with
  |zero=>intro sh n l m r h;simp[Hk.intMore]at h
  |succ k ih=>
   intro sh n l m r h;cases l with
   |nil=>simp[Hk.intMore]at h
   |cons b l=>
    rw[Hk.intMore]at h
    split at h
    · split at h
      · rename_i h1
        injection h with h;injection h with h _;subst h;exact h1
      · cases h
    · exact ih _ _ _ _ _ h
 cases l with
 |nil=>cases h
 |cons b l=>
  rw[Hk.intP]at h
  split at h
  · injection h with h;injection h with h _;subst h
    exact .inr (Nat.mod_lt _ (Nat.pow_pos (by omega)))
  · exact .inl (more _ _ _ _ _ _ h)
theorem bnamed_any (w:World) (B g d tb r:Nat) (A:Option Addr) (n c:Nat) (l:List UInt8) (ov:Value) (out:List Hd.HdrV) (t:Hk.TM) (bits:Nat) (h:BR w B g d tb r A n c l ov out t) (hU:bits=4\/bits=6):
 Calls Tryz.prog 240 #[.pointer (some ⟨g,0,none⟩),.int .i64 (bits:Nat)] w (NamPost B g d tb r ov out t bits l w):=by
 have HX:=hid ((Blk.new w 63 #[.string ⟨#[]⟩,.string ⟨#[]⟩,.bool false]).alloc (.cells #[.string ⟨#[]⟩,.string ⟨#[]⟩,.bool false] 63));have hy:=Blk.new (w.alloc (.cells #[.string ⟨#[]⟩,.string ⟨#[]⟩,.bool false] 63)) 63 #[.string ⟨#[]⟩,.string ⟨#[]⟩,.bool false];simp only[World.size_alloc]at hy;have HY:=hid hy;have hK:=hid (((Below.refl w.heap.size w).alloc (Nat.le_refl _) (.cells #[.string ⟨#[]⟩,.string ⟨#[]⟩,.bool false] 63)).alloc (by simp) (.cells #[.string ⟨#[]⟩,.string ⟨#[]⟩,.bool false] 63));have HK:=hid (h.below hK.out);have hL:=hid h.room;have hV:=hid hU;have H2:=hid (show∀j,ov.ownBlock=some j->j<w.heap.size fromλj e=>(h.out_.lt j e).2);have hW:=hid (And.intro h.hg h.blk.lt);clear h hU hy;go_enter Tryz.func240,Tryz.ntmps240;go_upto_region 2 with fail;generalize (w.alloc (.cells #[.string ⟨#[]⟩,.string ⟨#[]⟩,.bool false] 63)).alloc (.cells #[.string ⟨#[]⟩,.string ⟨#[]⟩,.bool false] 63)=W0 at*
 have H3:=hid (bnum_any W0 B g d tb r A n c l ov out t bits HK.out (by rcases hV.out with h|h<;>simp[h]));go_wp2_with fail;refine H3.out.mono ?_;intro e w1 hp;rcases hp with⟨i,rest,A1,n1,c1,hi,rfl,hX,hH⟩|⟨hi,hf⟩
 · have hY:i<=2147483647:=by
    rcases intP_small hi with h|h
    · exact h
    · rcases hV.out with rfl|rfl<;>(have:(2:Nat)^4=16:=rfl;have:(2:Nat)^6=64:=rfl;omega)
   have hw:=hid hX;have hj:=hid ((Bar.below hK.out hL.out.2.2.2 (TX tb r)).trans (hH.ofG HK.out.hg HK.out.room.2.2.2 _));have h7:w.heap.size≠g:=by have:=hW.out.2;omega
   have ho:w.heap.size+1≠g:=by have:=hW.out.2;omega
   have hI:=hid (hH.blk HX.out HX.out.lt h7);have hJ:=hid (hH.blk HY.out HY.out.lt ho);have HI:=hid hi;have H4:=hid hY;have hA:=hid (And.intro h7 ho);clear hi hX hH hY h7 ho;have h8:=hid (show∀j,ov.ownBlock=some j->j≠w.heap.size/\j≠w.heap.size+1 fromλj e=>by have:=H2.out j e;omega);have HQ:=hid (show B<=w.heap.size/\g≠w.heap.size/\g≠w.heap.size+1 from⟨hL.out.2.2.2,λe=>hA.out.1 e.symm,λe=>hA.out.2 e.symm⟩);have key:∀(w3:World) (nm:ByteArray) (A2:Option Addr) (n2 c2:Nat) (rest2:List UInt8),BR w3 B g d tb r A2 n2 c2 rest2 ov out t->Blk w3 w.heap.size 63 #[.string ⟨#[]⟩,.string ⟨#[]⟩,.bool false]->Blk w3 (w.heap.size+1) 63 #[.string nm,.string ⟨#[]⟩,.bool false]->Bar (TX tb r) B w w3->nm.size<=200000->
    (∀v r2,Hk.textP rest2=some (v,r2)->Hk.namedP bits t l=some ({Hk.hv [] v with name:=nm},r2))->(Hk.textP rest2=none->Hk.namedP bits t l=none)->
    Calls Tryz.prog 257 #[.pointer (some ⟨g,0,none⟩)] w3 (λe w4=>(∃v A3 n3 c3 rest3,e= .returned (.string ⟨v.toArray⟩)/\BR w4 B g d tb r A3 n3 c3 rest3 ov out t/\Blk w4 w.heap.size 63 #[.string ⟨#[]⟩,.string ⟨#[]⟩,.bool false]/\Blk w4 (w.heap.size+1) 63 #[.string nm,.string ⟨#[]⟩,.bool false]/\Bar (TX tb r) B w w4/\Hk.namedP bits t l=some ({Hk.hv [] v with name:=nm},rest3)/\v.length<=200000)\/(Hk.namedP bits t l=none/\FltPost B d tb r w e w4)):=by
    intro w3 nm A2 n2 c2 rest2 hk hx hy hb hsz h1 h2;refine(btext_any w3 B g d tb r A2 n2 c2 rest2 ov out t hk).mono ?_;intro e w4 hp;rcases hp with⟨v,rest3,A3,n3,c3,hs,rfl,hl,h9⟩|⟨hs,hf⟩
    · exact .inl ⟨v,A3,n3,c3,rest3,rfl,hl,h9.blk hx hx.lt hA.out.1,h9.blk hy hy.lt hA.out.2,hb.trans (h9.ofG hk.hg hk.room.2.2.2 _),h1 v rest3 hs,textP_small hs⟩
    · exact .inr ⟨h2 hs,hf.trans hb⟩
   have hG:=hid key;clear key;rcases Nat.eq_zero_or_pos i with h0|h0
   · subst h0
     have HT:=hid (btext_any w1 B g d tb r A1 n1 c1 rest ov out t hw.out);go_wp2_with fail;refine HT.out.mono ?_;intro e w2 hp;rcases hp with⟨s,rest2,A2,n2,c2,hs,rfl,hC,hc⟩|⟨hs,hf⟩
     · have hM:=hid hC
       have hq:=hid (hj.out.trans (hc.ofG HK.out.hg hw.out.room.2.2.2 _));have hN:=hid (hc.blk hI.out hI.out.lt hA.out.1);have hd:=hid (hc.blk hJ.out hJ.out.lt hA.out.2);have HS:=hid hs;clear hs hC hc;have y0:=hd.out.cell 0;have yf:=hd.out.frozen 0;have yl:=hd.out.lt;simp only[List.getElem?_toArray,List.getElem?_cons_zero,List.getElem?_cons_succ]at y0;go_upto_region 6 with fail;have hm:=hd.out.put 0 (.string ⟨s.toArray⟩);simp only[List.setIfInBounds_toArray,List.set_cons_zero,List.set_cons_succ]at hm;have HC:=hid (hG.out _ ⟨s.toArray⟩ A2 n2 c2 rest2 (hM.out.put (by have:=HQ.out.1;omega) HQ.out.2.2 (λj e=>(h8.out j e).2) 0 (.string ⟨s.toArray⟩)) (hN.out.far (p:=⟨w.heap.size+1,0,none⟩) (by simp) _) hm (hq.out.setCell (p:=⟨w.heap.size+1,0,none⟩) (.inl (by have:=HQ.out.1;simp;omega)) _)
        (by have:=textP_small HS.out;show s.toArray.size<=_;simpa using this)
        (nam_t HI.out HS.out) (nam_t0 HI.out HS.out))
       obtain⟨nm,hO⟩:∃nm:ByteArray,⟨s.toArray⟩=nm:=⟨_,rfl⟩;rw[hO]at HC ⊢;have ht:=hid (show nm.size<=200000 by rw[<-hO];have:=textP_small HS.out;show s.toArray.size<=_;simpa using this);clear hm y0 yf yl hO;go_wp2_with fail;refine HC.out.mono ?_;intro e w4 hp;rcases hp with⟨v,A3,n3,c3,rest3,rfl,hl,hD,hE,h9,h6,hF⟩|⟨h6,hf⟩
       · have hP:=hid hl
         have hQ:=hid hD;have h5:=hid hE;have hR:=hid h9;have HN:=hid (And.intro h6 hF);clear hl hD hE h9 h6 hF;have y0:=h5.out.cell 0;have y1:=h5.out.cell 1;have y2:=h5.out.cell 2;have yf1:=h5.out.frozen 1;have yl:=h5.out.lt;simp only[List.getElem?_toArray,List.getElem?_cons_zero,List.getElem?_cons_succ]at y0 y1 y2;go_upto_region 7 with fail;have hn:=h5.out.put 1 (.string ⟨v.toArray⟩);simp only[List.setIfInBounds_toArray,List.set_cons_zero,List.set_cons_succ]at hn;have he:=hid hn;have h3:=hid (hQ.out.far (p:=⟨w.heap.size+1,1,none⟩) (by simp) (.string ⟨v.toArray⟩));have hS:=hid (hR.out.setCell (p:=⟨w.heap.size+1,1,none⟩) (.inl (by have:=HQ.out.1;simp;omega)) (.string ⟨v.toArray⟩));have hT:=hid (hP.out.put (q:=w.heap.size+1) (by have:=HQ.out.1;omega) HQ.out.2.2 (λj e=>(h8.out j e).2) 1 (.string ⟨v.toArray⟩));clear y0 y1 y2 yf1 yl hn;generalize w4.setCell ⟨w.heap.size+1,1,none⟩ (.string ⟨v.toArray⟩)=W5 at*
         have y0:=he.out.cell 0;have y1:=he.out.cell 1;have y2:=he.out.cell 2;have x0:=h3.out.cell 0;have x1:=h3.out.cell 1;have x2:=h3.out.cell 2;have xf:=h3.out.frozen 0;have xf1:=h3.out.frozen 1;have xf2:=h3.out.frozen 2;have xl:=h3.out.lt;have yl:=he.out.lt;simp only[List.getElem?_toArray,List.getElem?_cons_zero,List.getElem?_cons_succ]at x0 x1 x2 y0 y1 y2;go_wp2_with fail;have k1:=hT.out.put (q:=w.heap.size) HQ.out.1 HQ.out.2.1 (λj e=>(h8.out j e).1) 0 (.string nm);have k2:=k1.put (q:=w.heap.size) HQ.out.1 HQ.out.2.1 (λj e=>(h8.out j e).1) 1 (.string ⟨v.toArray⟩);have k3:=k2.put (q:=w.heap.size) HQ.out.1 HQ.out.2.1 (λj e=>(h8.out j e).1) 2 (.bool false);have b1:=hS.out.setCell (p:=⟨w.heap.size,0,none⟩) (.inl HQ.out.1) (.string nm);have b2:=b1.setCell (p:=⟨w.heap.size,1,none⟩) (.inl HQ.out.1) (.string ⟨v.toArray⟩);have b3:=b2.setCell (p:=⟨w.heap.size,2,none⟩) (.inl HQ.out.1) (.bool false);refine bodyPost_ret (results_named _ _ w.heap.size _ _ _ rfl (Blk3 h3.out rfl _ _ _)) rfl (.inl ⟨_,rest3,A3,n3,c3,HN.out.1,rfl,k3,b3,ht.out,?_⟩);have:=HN.out.2;show v.toArray.size<=200000
         simpa using this
       · obtain⟨⟨a,rfl⟩,h4⟩:=hf
         have HF:=hid h4;have HN:=hid h6;clear h6 h4;go_wp2_with fail;exact⟨rfl,.inr ⟨HN.out,⟨a,rfl⟩,HF.out⟩⟩
     · obtain⟨⟨a,rfl⟩,h4⟩:=hf
       have HF:=hid h4;have HN:=hid (nam_t1 (t:=t) HI.out hs);clear hs h4;go_wp2_with fail;exact⟨rfl,.inr ⟨HN.out,⟨a,rfl⟩,HF.out.1,hj.out.trans HF.out.2⟩⟩
   · have hne:i≠0:=by omega
     have H7:(0:Int)<(i:Int):=by omega
     have HT:=hid (bhead_any w1 B g d tb r A1 n1 c1 rest ov out t i hw.out (by have:=H4.out;omega));have hu:=hid hne;have H1:0<i:=h0;clear hne h0;go_wp2_with fail;refine HT.out.mono ?_;intro e w2 hp;rcases hp with⟨hh,hg,rfl,hC,_,hc⟩|⟨hg,hf⟩
     · have hM:=hid hC
       have hq:=hid (hj.out.trans (Bar.below hc hw.out.room.2.2.2 _));have hN:=hid (hI.out.below hc hI.out.lt);have hd:=hid (hJ.out.below hc hJ.out.lt);have hZ:=hid hg;have H0:=hid (get_small (Nat.le_trans hw.out.dt.sz hw.out.dt.mo) hg);clear hg hC hc;have y0:=hd.out.cell 0;have yf:=hd.out.frozen 0;have yl:=hd.out.lt;simp only[List.getElem?_toArray,List.getElem?_cons_zero,List.getElem?_cons_succ]at y0;obtain⟨nm,H5,h7⟩:=hh;simp only[hdrC];have H8:=field_hdr (.string nm) (.string H5) (.bool h7);go_upto_region 6 with fail;have hm:=hd.out.put 0 (.string nm);simp only[List.setIfInBounds_toArray,List.set_cons_zero,List.set_cons_succ]at hm;have HC:=hid (hG.out _ nm A1 n1 c1 rest (hM.out.put (by have:=HQ.out.1;omega) HQ.out.2.2 (λj e=>(h8.out j e).2) 0 (.string nm)) (hN.out.far (p:=⟨w.heap.size+1,0,none⟩) (by simp) _) hm (hq.out.setCell (p:=⟨w.heap.size+1,0,none⟩) (.inl (by have:=HQ.out.1;simp;omega)) _)
        (Nat.le_trans H0.out.1 (by omega))
        (nam_i HI.out hu.out hZ.out) (nam_i0 HI.out hu.out hZ.out))
       have ht:=hid (show nm.size<=200000 from Nat.le_trans H0.out.1 (by omega));clear hm y0 yf yl;go_wp2_with fail;refine HC.out.mono ?_;intro e w4 hp;rcases hp with⟨v,A3,n3,c3,rest3,rfl,hl,hD,hE,h9,h6,hF⟩|⟨h6,hf⟩
       · have hP:=hid hl
         have hQ:=hid hD;have h5:=hid hE;have hR:=hid h9;have HN:=hid (And.intro h6 hF);clear hl hD hE h9 h6 hF;have y0:=h5.out.cell 0;have y1:=h5.out.cell 1;have y2:=h5.out.cell 2;have yf1:=h5.out.frozen 1;have yl:=h5.out.lt;simp only[List.getElem?_toArray,List.getElem?_cons_zero,List.getElem?_cons_succ]at y0 y1 y2;go_upto_region 7 with fail;have hn:=h5.out.put 1 (.string ⟨v.toArray⟩);simp only[List.setIfInBounds_toArray,List.set_cons_zero,List.set_cons_succ]at hn;have he:=hid hn;have h3:=hid (hQ.out.far (p:=⟨w.heap.size+1,1,none⟩) (by simp) (.string ⟨v.toArray⟩));have hS:=hid (hR.out.setCell (p:=⟨w.heap.size+1,1,none⟩) (.inl (by have:=HQ.out.1;simp;omega)) (.string ⟨v.toArray⟩));have hT:=hid (hP.out.put (q:=w.heap.size+1) (by have:=HQ.out.1;omega) HQ.out.2.2 (λj e=>(h8.out j e).2) 1 (.string ⟨v.toArray⟩));clear y0 y1 y2 yf1 yl hn;generalize w4.setCell ⟨w.heap.size+1,1,none⟩ (.string ⟨v.toArray⟩)=W5 at*
         have y0:=he.out.cell 0;have y1:=he.out.cell 1;have y2:=he.out.cell 2;have x0:=h3.out.cell 0;have x1:=h3.out.cell 1;have x2:=h3.out.cell 2;have xf:=h3.out.frozen 0;have xf1:=h3.out.frozen 1;have xf2:=h3.out.frozen 2;have xl:=h3.out.lt;have yl:=he.out.lt;simp only[List.getElem?_toArray,List.getElem?_cons_zero,List.getElem?_cons_succ]at x0 x1 x2 y0 y1 y2;go_wp2_with fail;have k1:=hT.out.put (q:=w.heap.size) HQ.out.1 HQ.out.2.1 (λj e=>(h8.out j e).1) 0 (.string nm);have k2:=k1.put (q:=w.heap.size) HQ.out.1 HQ.out.2.1 (λj e=>(h8.out j e).1) 1 (.string ⟨v.toArray⟩);have k3:=k2.put (q:=w.heap.size) HQ.out.1 HQ.out.2.1 (λj e=>(h8.out j e).1) 2 (.bool false);have b1:=hS.out.setCell (p:=⟨w.heap.size,0,none⟩) (.inl HQ.out.1) (.string nm);have b2:=b1.setCell (p:=⟨w.heap.size,1,none⟩) (.inl HQ.out.1) (.string ⟨v.toArray⟩);have b3:=b2.setCell (p:=⟨w.heap.size,2,none⟩) (.inl HQ.out.1) (.bool false);refine bodyPost_ret (results_named _ _ w.heap.size _ _ _ rfl (Blk3 h3.out rfl _ _ _)) rfl (.inl ⟨_,rest3,A3,n3,c3,HN.out.1,rfl,k3,b3,ht.out,?_⟩);have:=HN.out.2;show v.toArray.size<=200000
         simpa using this
       · obtain⟨⟨a,rfl⟩,h4⟩:=hf
         have HF:=hid h4;have HN:=hid h6;clear h6 h4;go_wp2_with fail;exact⟨rfl,.inr ⟨HN.out,⟨a,rfl⟩,HF.out⟩⟩
     · obtain⟨⟨a,rfl⟩,h4⟩:=hf
       have HF:=hid h4;have HN:=hid (nam_i1 (t:=t) HI.out hu.out hg);clear hg h4;go_wp2_with fail;exact⟨rfl,.inr ⟨HN.out,⟨a,rfl⟩,HF.out.1,hj.out.trans HF.out.2⟩⟩
 · obtain⟨⟨a,rfl⟩,h4⟩:=hf
   have HF:=hid h4;have HN:=hid (show Hk.namedP bits t l=none by rw[Hk.namedP,hi]);clear hi h4;go_wp2_with fail;exact⟨rfl,.inr ⟨HN.out,⟨a,rfl⟩,HF.out.1,(Bar.below hK.out hL.out.2.2.2 _).trans HF.out.2⟩⟩
end Go.Proofs.YtkpppjhbmnfmkaaGreatDoor
end

section
set_option maxHeartbeats 4000000
set_option maxRecDepth 100000
namespace Go.Proofs.YtkpppjhbmnfmkaaGreatDoor
open Lib (hid)
open Go.RowKit Go.Own Go.Own.Cx
attribute [local go_sem] Oper.semAt_some
def TelPost (B g d tb r:Nat) (A:Option Addr) (n c:Nat) (l:List UInt8) (ov:Value) (out:List Hd.HdrV) (t:Hk.TM) (hd:Hd.HdrV) (w:World) (e:Ending) (w':World):Prop:=
 (hszs out+hsz hd<=16384/\e= .returned (.tuple #[])/\∃ov',BR w' B g d tb r A n c l ov' (out++[hd]) t/\Bar (λj=>j=g\/ov.ownBlock=some j) w.heap.size w w')\/(16384<hszs out+hsz hd/\FltPost B d tb r w e w')
theorem BR.told {w W0 WA w8:World} {B g d tb r n c:Nat} {A:Option Addr} {l:List UInt8} {ov v8:Value} {out:List Hd.HdrV} {t:Hk.TM} {hd:Hd.HdrV} (h:BR W0 B g d tb r A n c l ov out t) (h0:Below w.heap.size w W0) {s2:Nat} (hs2:hszs (out++[hd])=s2)
 (h3:Blk WA g 255 #[.pointer (some ⟨d,0,none⟩),.slice A n c,ov,.int .i64 (s2:Nat)]) (h2:Bar (λj=>j=g) W0.heap.size W0 WA) (h5:Cm.Ew hdrC 63 3 w8 B v8 (out++[hd])) (hg:WA.grownBy w8 ov.ownBlock) (hv:v8.ownBlock=ov.ownBlock\/v8.ownBlock=some WA.heap.size):
 BR (w8.setCell ⟨g,2,none⟩ v8) B g d tb r A n c l v8 (out++[hd]) t/\Bar (λj=>j=g\/ov.ownBlock=some j) w.heap.size w (w8.setCell ⟨g,2,none⟩ v8):=by
 have h9:=h3.lt;have hB:=h.room.2.2.2;have h7:Below B W0 WA:=⟨h2.os,h2.tape,h2.output,h2.size,λj hj=>h2.block j (by omega) (by have:=h.hg;omega)⟩;have h8:Below B W0 w8:=h7.grown hg (Nat.le_trans hB h2.size) λk e=>(h.out_.lt k e).1;have h4:Below B W0 (w8.setCell ⟨g,2,none⟩ v8):=h8.setCell (p:=⟨g,2,none⟩) h.hg _;have hne:some g≠ov.ownBlock:=λe=>h.ne g e.symm rfl;have h6:∀j,v8.ownBlock=some j->j≠g:=λj e=>by
  rcases hv with hv|hv
  · exact h.ne j (hv▸e)
  · rw[hv]at e;injection e with e;omega
 refine⟨⟨?_,h.hg,h.le,h.few,h.rd_.below h4,h.far,h.dt.below h4 h.lt,h.lt,h.nd,⟨h.room.1,h.room.2.1,h.room.2.2.1,Nat.le_trans hB h4.size⟩,h5.grown (grown_setCell (World.grownBy.refl w8 (some g)) 2 _) (.inr λe=>h6 g e rfl),h6,h.env.below h4 h.room.1⟩,?_⟩
 · have h1:=(h3.grown hg hne).put 2 v8
   simp only[List.setIfInBounds_toArray,List.set_cons_zero,List.set_cons_succ]at h1;rw[hs2];exact h1
 · have b0:Bar (λj=>j=g\/ov.ownBlock=some j) w.heap.size w W0:=Bar.of h0 _
   have b1:Bar (λj=>j=g\/ov.ownBlock=some j) w.heap.size w WA:=b0.trans ⟨h2.os,h2.tape,h2.output,h2.size,λj hj hx=>h2.block j (Nat.lt_of_lt_of_le hj h0.size) (λe=>hx (.inl e))⟩;exact(b1.grown hg b1.size (λj e=>.inr (.inr e))).setCell (p:=⟨g,2,none⟩) (.inr (.inl rfl)) _
theorem btell_any (w:World) (B g d tb r:Nat) (A:Option Addr) (n c:Nat) (l:List UInt8) (ov:Value) (out:List Hd.HdrV) (t:Hk.TM) (hd:Hd.HdrV) (h:BR w B g d tb r A n c l ov out t) (h1:hd.name.size<=200000) (h2:hd.value.size<=200000) (h3:hszs out<=16384):
 Calls Tryz.prog 236 #[.pointer (some ⟨g,0,none⟩),.agg (hdrC hd)] w (TelPost B g d tb r A n c l ov out t hd w):=by
 have h4:out.length<=1000:=by have:=hszs_32 out;omega
 have hB:=h.room.2.2.2;have HX:=hid (Blk.new w 63 (hdrC hd));have hc:=hid ((Below.refl w.heap.size w).alloc (Nat.le_refl _) (.cells (hdrC hd) 63));have HK:=hid (h.below hc.out);obtain⟨A0,c0,h8,_,_⟩:=h.out_.form;have HZ:=hid (show(w.alloc (.cells (hdrC hd) 63)).heap.size=w.heap.size+1 by simp);have hH:=h.blk.lt;obtain⟨hn,hv,hne⟩:=hd;simp only at h1 h2;have HS:=hid (λW=>hsize_any hn hv hne W (by omega) (by omega));have hl:=hid (show hszs (out++[⟨hn,hv,hne⟩])=hszs out+(hn.size+hv.size+32)by simp[hszs,hsz]);clear h;simp only[hdrC]at HX hc HK HZ ⊢;have hI:IntKind.i64.wrap ((hszs out:Int)+((hn.size+hv.size+32:Nat):Int))=((hszs out+(hn.size+hv.size+32):Nat):Int):=by rw[IntKind.wrap_i64];omega
 have g3:=HK.out.blk.cell 3;simp only[List.getElem?_toArray,List.getElem?_cons_zero,List.getElem?_cons_succ]at g3;have HG:=hid (HK.out.blk.put 3 (.int .i64 ((hszs out+(hn.size+hv.size+32):Nat):Int)));simp only[List.setIfInBounds_toArray,List.set_cons_zero,List.set_cons_succ]at HG;generalize hm:hszs out+(hn.size+hv.size+32)=s2 at*
 generalize ho:hszs out=so at*
 generalize hi:hn.size+hv.size+32=sh at*
 have h9:=hid (show hszs out+hsz ⟨hn,hv,hne⟩=s2 by rw[ho,show hsz ⟨hn,hv,hne⟩=sh from hi];exact hm);clear hi;go_enter Tryz.func236,Tryz.ntmps236;go_upto_region 1 with fail;generalize w.alloc (.cells #[.string hn,.string hv,.bool hne] 63)=W0 at*
 have gf:=HK.out.blk.frozen 3;have x0:=HX.out.cell 0;have x1:=HX.out.cell 1;have x2:=HX.out.cell 2;simp only[List.getElem?_toArray,List.getElem?_cons_zero,List.getElem?_cons_succ]at x0 x1 x2;have xl:=HX.out.lt;have gl:=HK.out.blk.lt;have h0:=hid (show Blk ((W0.setCell ⟨g,3,none⟩ (.int .i64 (s2:Nat))).alloc (.cells #[.string hn,.string hv,.bool hne] 63)).drew g 255 #[.pointer (some ⟨d,0,none⟩),.slice A n c,ov,.int .i64 (s2:Nat)]/\
  Bar (λj=>j=g) W0.heap.size W0 ((W0.setCell ⟨g,3,none⟩ (.int .i64 (s2:Nat))).alloc (.cells #[.string hn,.string hv,.bool hne] 63)).drew/\
  Cm.Ew hdrC 63 3 ((W0.setCell ⟨g,3,none⟩ (.int .i64 (s2:Nat))).alloc (.cells #[.string hn,.string hv,.bool hne] 63)).drew B ov out/\
  Blk ((W0.setCell ⟨g,3,none⟩ (.int .i64 (s2:Nat))).alloc (.cells #[.string hn,.string hv,.bool hne] 63)).drew w.heap.size 63 #[.string hn,.string hv,.bool hne]from
  ⟨HG.out.alloc _,(((Bar.refl (λj=>j=g) W0.heap.size W0).setCell (p:=⟨g,3,none⟩) (.inr rfl) _).alloc (by simp[World.setCell]) _).drew,
    (HK.out.out_.grown (grown_setCell (World.grownBy.refl W0 (some g)) 3 _) (.inr λe=>HK.out.ne g e rfl)).grown (grown_drewN (World.grownBy_alloc _ _ none) 1) (Cm.own_or _),(HX.out.far (p:=⟨g,3,none⟩) (by simp;omega) _).alloc _⟩)
 go_region_with (first
  |(go_at_call 135
    with_reducible refine Calls.mono (HS.out _) ?_
    rintro e w1 ⟨rfl,hw⟩;subst w1)
  |fail)
 all_goals
  generalize ((W0.setCell ⟨g,3,none⟩ (.int .i64 (s2:Nat))).alloc (.cells #[.string hn,.string hv,.bool hne] 63)).drew=W2 at*
  have c3:W2.cell? ⟨g,3,none⟩=some (.int .i64 (s2:Nat)):=h0.out.1.cell 3;have c2:W2.cell? ⟨g,2,none⟩=some ov:=h0.out.1.cell 2;rw[h8]at c2;have z0:=h0.out.2.2.2.cell 0;have z1:=h0.out.2.2.2.cell 1;have z2:=h0.out.2.2.2.cell 2;simp only[List.getElem?_toArray,List.getElem?_cons_zero,List.getElem?_cons_succ]at z0 z1 z2;have zl:=h0.out.2.2.2.lt;have hJ:=h0.out.1.lt;clear g3 gf x0 x1 x2 xl gl;by_cases h5:16384<s2
  · have hq:(16384:Int)<(s2:Int):=Int.ofNat_lt.2 h5
    have he:Below B W0 W2:=⟨h0.out.2.1.os,h0.out.2.1.tape,h0.out.2.1.output,h0.out.2.1.size,λj hj=>h0.out.2.1.block j (Nat.lt_of_lt_of_le hj HK.out.room.2.2.2) (by have:=HK.out.hg;omega)⟩;have hs:=hid (HK.out.dt.below he HK.out.lt);have ht:=hid he;obtain⟨a,ha⟩:=(HK.out.env.below he HK.out.room.1).list;have hf:=hid h5;clear he h5 z0 z1 z2 c2;go_upto_region 3 with fail;go_wp2_with (first
     |(go_at_call 242
       refine Calls.mono (hgive_err a _) ?_;rintro e w5 ⟨rfl,hw⟩;subst w5)
     |fail)
    exact⟨rfl,.inr ⟨by rw[h9.out];exact hf.out,⟨a,rfl⟩,⟨t,hs.out⟩,(Bar.below hc.out hB _).trans (Bar.of ht.out _)⟩⟩
  have hq:¬(16384:Int)<(s2:Int):=λh=>h5 (Int.ofNat_lt.1 h);have hf:=hid h5;clear h5;have hu:=hid (show Cm.Ew hdrC 63 3 (W2.drew.alloc (.cells #[.string hn,.string hv,.bool hne] 63)) B (.slice A0 out.length c0) out from h8▸h0.out.2.2.1.grown (show W2.grownBy _ none from⟨rfl,rfl,rfl,by simp,λk hk _=>Below.heap_alloc W2.drew _ k hk⟩) (Cm.own_or _));have hA:Hid (Cm.RS hdrC 3 (W2.drew.alloc (.cells #[.string hn,.string hv,.bool hne] 63)) (W2.drew.alloc (.cells #[.string hn,.string hv,.bool hne] 63)).heap.size (some ⟨W2.heap.size,0,none⟩) 1 [⟨hn,hv,hne⟩]):=hid (by
   have h:=(Cm.Ew.lit (k:=3) hdrC 63 (λ_=>rfl) W2.drew [⟨hn,hv,hne⟩] (by simp)).rs (λ_=>rfl) (by omega);have e1:(Cm.flat hdrC [⟨hn,hv,hne⟩]).toArray= #[.string hn,.string hv,.bool hne]:=by simp[Cm.flat,hdrC]
   rw[e1]at h;exact h)
  have hC:=hid (show out.length+1<=1000000 by omega);have hD:=hid (show B<=(W2.drew.alloc (.cells #[.string hn,.string hv,.bool hne] 63)).heap.size by have:=h0.out.2.1.size;simp;omega);go_wp2_with fail;go_region_law
   ((refine Cm.step_app_e elH _ (by rfl) (.tmp 24) (.tmp 26) (by rfl) B (.slice A0 out.length c0) out (by rfl) hu.out _ (some ⟨W2.heap.size,0,none⟩) 1 1 [⟨hn,hv,hne⟩] (by rfl) hA.out hC.out hD.out ?_
     intro A8 c8 w8 h6 h7 hb;have hE:=hid h7;have hF:=hid h6;have hG:=hid hb;have hh:=((show Blk W2.drew g 255 #[.pointer (some ⟨d,0,none⟩),.slice A n c,ov,.int .i64 (s2:Nat)]from h0.out.1).alloc (.cells #[.string hn,.string hv,.bool hne] 63)).grown h7 (λe=>HK.out.ne g (h8▸e.symm) rfl);have hK:w8.frozen? ⟨g,2,none⟩=false:=hh.frozen 2;have hL:w8.cell? ⟨g,2,none⟩=some ov:=hh.cell 2;clear hh h6 h7 hb))
 all_goals
  go_wp2;go_end0;have hT:=HK.out.told hc.out hl.out (WA:=W2.drew.alloc (.cells #[.string hn,.string hv,.bool hne] 63)) ((show Blk W2.drew g 255 #[.pointer (some ⟨d,0,none⟩),.slice A n c,ov,.int .i64 (s2:Nat)]from h0.out.1).alloc _) ((h0.out.2.1.drewN 1).alloc (by have:=h0.out.2.1.size;show W0.heap.size<=W2.heap.size;omega) _) hF.out (h8▸hE.out) (h8▸hG.out);exact .inl ⟨by rw[h9.out];exact Nat.not_lt.1 hf.out,rfl,_,hT.1,h8▸hT.2⟩
end Go.Proofs.YtkpppjhbmnfmkaaGreatDoor
end

section
set_option maxHeartbeats 4000000
set_option maxRecDepth 100000
namespace Go.Proofs.YtkpppjhbmnfmkaaGreatDoor
open Lib (hid)
open Go.RowKit Go.Own Go.Own.Cx
attribute [local go_sem] Oper.semAt_some
def stepT (t:Hk.TM) (out:List Hd.HdrV) (l:List UInt8):Option (List Hd.HdrV×List UInt8×Hk.TM):=
 match Hk.stepP t (!out.isEmpty) l with
 |none=>none
 |some (none,r,t')=>some (out,r,t')
 |some (some h,r,t')=>if 16384<hszs out+hsz h then none else some (out++[h],r,t')
def KndPost (B g d tb r:Nat) (out:List Hd.HdrV) (t:Hk.TM) (l:List UInt8) (w:World) (e:Ending) (w':World):Prop:=
 (∃out' rest t' A' n' c' ov',stepT t out l=some (out',rest,t')/\e= .returned (.tuple #[])/\BR w' B g d tb r A' n' c' rest ov' out' t'/\Bar (TX tb r) B w w'/\hszs out'<=16384)\/(stepT t out l=none/\FltPost B d tb r w e w')
section
variable {w w':World} {B g d tb r n c:Nat} {A:Option Addr} {l:List UInt8} {ov:Value} {out:List Hd.HdrV} {t:Hk.TM}
theorem BR.turn (h:BR w B g d tb r A n c l ov out t) {E':List Hd.HdrV} {m':Nat} (ht:TabR w' tb r E' m') (hb:Bar (TX tb r) w.heap.size w w') (hs:hszs E'<=m') (hm:m'<=4096):BR w' B g d tb r A n c l ov out ⟨E',m'⟩:=by
 have hB:=h.room.2.2.2;have h2:¬TX tb r g:=λhx=>by have:=h.hg;have:=h.lt;rcases hx with hx|hx<;>omega
 have h3:∀j,ov.ownBlock=some j->¬TX tb r j:=λj e hx=>by have:=(h.out_.lt j e).1;have:=h.lt;rcases hx with hx|hx<;>omega
 refine⟨hb.blk h.blk h.blk.lt h2,h.hg,h.le,h.few,(hb.mono hB).rd h.rd_ h.far,h.far,⟨hb.blk h.dt.dec (by have:=h.lt;omega) h.nd,ht,hs,hm⟩,h.lt,h.nd,⟨h.room.1,h.room.2.1,h.room.2.2.1,Nat.le_trans hB hb.size⟩,?_,h.ne,h.env.keep hb.size λj hj=>hb.block j (by have:=h.room;omega) λhx=>by have:=h.room;rcases hx with hx|hx<;>omega⟩;rcases h.out_.2 with h0|⟨g0,cap,cur,rfl,h4,h1,rr⟩
 · exact⟨h.out_.1,.inl h0⟩
 · exact⟨h.out_.1,.inr ⟨g0,cap,cur,rfl,h4,(hb.block g0 (Array.getElem?_eq_some_iff.1 h1).1 (h3 g0 rfl)).trans h1,rr⟩⟩
end
theorem named_never {bits:Nat} {t:Hk.TM} {l r:List UInt8} {h:Hd.HdrV} (e:Hk.namedP bits t l=some (h,r)):h.never=false:=by
 unfold Hk.namedP at e
 repeat' split at e
 all_goals first|(cases e;done)|(cases e;simp[Hk.hv];done)|(cases e;rfl)
theorem FltPost.of {B d tb r:Nat} {w w1 w2:World} {a:Addr} (h:Bar (TX tb r) B w w1) (k:(∃t,DT w2 d tb r t)/\Bar (TX tb r) B w1 w2):FltPost B d tb r w (.panicked (hflt a)) w2:=⟨⟨a,rfl⟩,k.1,h.trans k.2⟩
theorem tel_bar {w2 w3:World} {B g d tb r n c:Nat} {A:Option Addr} {l:List UInt8} {ov:Value} {out:List Hd.HdrV} {t:Hk.TM} (h:BR w2 B g d tb r A n c l ov out t) (h0:Bar (λj=>j=g\/ov.ownBlock=some j) w2.heap.size w2 w3):Bar (TX tb r) B w2 w3:=
 ⟨h0.os,h0.tape,h0.output,h0.size,λj hj _=>h0.block j (Nat.lt_of_lt_of_le hj h.room.2.2.2) (λhx=>by
   have:=h.hg;rcases hx with hx|hx
   · omega
   · have:=(h.out_.lt j hx).1;omega)⟩
theorem hszs_snoc (out:List Hd.HdrV) (h:Hd.HdrV):hszs (out++[h])=hszs out+hsz h:=by simp[hszs]
theorem stepT_4 {t:Hk.TM} {out:List Hd.HdrV} {l:List UInt8} (h:¬32<=(l.headD 0).toNat):stepT t out l=match Hk.namedP 4 t l with|none=>none|some (h,rest)=>if 16384<hszs out+hsz h then none else some (out++[{h with never:=decide (16<=(l.headD 0).toNat)}],rest,t):=by
 unfold stepT Hk.stepP;rw[if_neg (by omega),if_neg (by omega),if_neg h];cases Hk.namedP 4 t l with
 |none=>rfl
 |some p=>rfl
theorem stepT_6 {t:Hk.TM} {out:List Hd.HdrV} {l:List UInt8} (h1:¬128<=(l.headD 0).toNat) (h2:64<=(l.headD 0).toNat):stepT t out l=match Hk.namedP 6 t l with|none=>none|some (h,rest)=>if 16384<hszs out+hsz h then none else some (out++[h],rest,t.add h):=by
 unfold stepT Hk.stepP;rw[if_neg h1,if_pos h2];cases Hk.namedP 6 t l with
 |none=>rfl
 |some p=>rfl
theorem stepT_5 {t:Hk.TM} {out:List Hd.HdrV} {l:List UInt8} (h1:¬64<=(l.headD 0).toNat) (h2:32<=(l.headD 0).toNat):stepT t out l=match Hk.intP 5 l with|none=>none|some (n,rest)=>if out≠[]\/n>4096 then none else some (out,rest,t.resize n):=by
 unfold stepT Hk.stepP;rw[if_neg (by omega),if_neg h1,if_pos h2];cases Hk.intP 5 l with
 |none=>rfl
 |some p=>
  obtain⟨n,rest⟩:=p;simp only;cases out with
  |nil=>by_cases h:n>4096<;>simp[h]
  |cons x out=>simp
theorem kind1A_any (w:World) (B g d tb r:Nat) (A:Option Addr) (n c:Nat) (l:List UInt8) (ov:Value) (out:List Hd.HdrV) (t:Hk.TM) (h:BR w B g d tb r A n c l ov out t) (hs:hszs out<=16384) (hx:128<=(l.headD 0).toNat):
 Calls Tryz.prog 235 #[.pointer (some ⟨g,0,none⟩)] w (KndPost B g d tb r out t l w):=by
 have HK:=hid h;have HN:=hid (bnum_any w B g d tb r A n c l ov out t 7 h (by omega));have HS:=hid hs;have h0:stepT t out l=match Hk.intP 7 l with|none=>none|some (i,rest)=>match t.get i with|none=>none|some h=>if 16384<hszs out+hsz h then none else some (out++[h],rest,t):=by
  unfold stepT Hk.stepP;rw[if_pos hx];cases Hk.intP 7 l with
  |none=>rfl
  |some p=>
   obtain⟨i,rest⟩:=p;simp only;cases t.get i<;>rfl
 have hb:=hid h0;clear h hs hx h0;go_enter Tryz.func235,Tryz.ntmps235;go_wp2_with fail;refine HN.out.mono ?_;intro e w1 hp;rcases hp with⟨i,rest,A1,n1,c1,hi,rfl,h5,hc⟩|⟨hi,hf⟩
 · have h0:=hb.out
   rw[hi]at h0;have h6:=hid h5;have he:=hid (hc.ofG HK.out.hg HK.out.room.2.2.2 (TX tb r));have hh:i<=1000000000000:=by
    rcases intP_small hi with h|h
    · omega
    · have:(2:Nat)^7=128:=rfl;omega
   have HH:=hid (bhead_any w1 B g d tb r A1 n1 c1 rest ov out t i h5 hh);have h3:=hid h0;clear hi h5 hc hh h0;go_wp2_with fail;refine HH.out.mono ?_;intro e w2 hp;rcases hp with⟨hd,hg,rfl,h7,_,hk⟩|⟨hg,hf⟩
   · have h0:=h3.out
     simp only[hg]at h0;have h8:=hid h7;have hl:=hid (he.out.trans (Bar.below hk h6.out.room.2.2.2 _));have h9:=get_small (Nat.le_trans h6.out.dt.sz h6.out.dt.mo) hg;have HT:=hid (btell_any w2 B g d tb r A1 n1 c1 rest ov out t hd h7 (Nat.le_trans h9.1 (by omega)) (Nat.le_trans h9.2 (by omega)) HS.out);have h4:=hid h0;clear hg h7 hk h0 h9;obtain⟨hn,hv,hne⟩:=hd;simp only[hdrC]at HT ⊢;go_wp2_with fail;refine HT.out.mono ?_;intro e w3 hp;rcases hp with⟨hm,rfl,ov',ho,h2⟩|⟨hq,hf⟩
     · have HF:=hid (show KndPost B g d tb r out t l w (.returned (.tuple #[])) w3 from .inl ⟨_,_,_,_,_,_,_,by rw[h4.out,if_neg (by omega)],rfl,ho,hl.out.trans ⟨h2.os,h2.tape,h2.output,h2.size,λj hj _=>h2.block j (Nat.lt_of_lt_of_le hj h8.out.room.2.2.2) (λhx=>by
        have:=h8.out.hg;rcases hx with hx|hx
        · omega
        · have:=(h8.out.out_.lt j hx).1;omega)⟩,by
          show hszs (out++[_])<=16384;have e1:hszs (out++[⟨hn,hv,hne⟩])=hszs out+hsz ⟨hn,hv,hne⟩:=by simp[hszs]
          rw[e1];exact hm⟩)
       clear ho h2 hm;go_wp2;go_end0;exact HF.out
     · obtain⟨⟨a,rfl⟩,h1⟩:=hf
       have HF:=hid (show KndPost B g d tb r out t l w (.panicked (hflt a)) w3 from .inr ⟨by rw[h4.out,if_pos hq],FltPost.of hl.out h1⟩);clear h1 hq;go_wp2_with fail;exact⟨rfl,HF.out⟩
   · obtain⟨⟨a,rfl⟩,h1⟩:=hf
     have HF:=hid (show KndPost B g d tb r out t l w (.panicked (hflt a)) w2 from .inr ⟨by have:=h3.out;simp only[hg]at this;exact this,FltPost.of he.out h1⟩);clear h1 hg;go_wp2_with fail;exact⟨rfl,HF.out⟩
 · obtain⟨⟨a,rfl⟩,h1⟩:=hf
   have HF:=hid (show KndPost B g d tb r out t l w (.panicked (hflt a)) w1 from .inr ⟨by rw[hb.out,hi],⟨a,rfl⟩,h1⟩);clear h1 hi;go_wp2_with fail;exact⟨rfl,HF.out⟩
theorem kind5A_any (w:World) (B g d tb r:Nat) (A:Option Addr) (n c:Nat) (l:List UInt8) (ov:Value) (out:List Hd.HdrV) (t:Hk.TM) (h:BR w B g d tb r A n c l ov out t) (hs:hszs out<=16384) (hx:¬16<=(l.headD 0).toNat):
 Calls Tryz.prog 244 #[.pointer (some ⟨g,0,none⟩)] w (KndPost B g d tb r out t l w):=by
 have HN:=hid (bnamed_any w B g d tb r A n c l ov out t 4 h (by omega));have HS:=hid hs;have h0:=stepT_4 (t:=t) (out:=out) (l:=l) (by omega);rw[show decide (16<=(l.headD 0).toNat)=false by simpa using hx]at h0;have h5:=hid h0;clear h hs hx h0;go_enter Tryz.func244,Tryz.ntmps244;go_wp2_with fail;refine HN.out.mono ?_;intro e w2 hp;rcases hp with⟨hd,rest,A1,n1,c1,h1,rfl,h4,h6,h7,h8⟩|⟨h1,hf⟩
 · have h0:=h5.out
   have h9:=named_never h1;simp only[h1]at h0;have hj:=hid h4;have hb:=hid h6;have HT:=hid (btell_any w2 B g d tb r A1 n1 c1 rest ov out t hd h4 h7 h8 HS.out);obtain⟨hn,hv,hne⟩:=hd;simp only at h9;subst h9;have h3:=hid h0;clear h1 h4 h6 h0 h7 h8;simp only[hdrC]at HT ⊢;go_wp2_with fail;refine HT.out.mono ?_;intro e w3 hp;rcases hp with⟨hc,rfl,ov',he,hh⟩|⟨hi,hf⟩
   · have HF:=hid (show KndPost B g d tb r out t l w (.returned (.tuple #[])) w3 from .inl ⟨_,_,_,_,_,_,_,by rw[h3.out,if_neg (by omega)],rfl,he,hb.out.trans (tel_bar hj.out hh),by rw[hszs_snoc];exact hc⟩)
     clear he hh hc;go_wp2;go_end0;exact HF.out
   · obtain⟨⟨a,rfl⟩,h2⟩:=hf
     have HF:=hid (show KndPost B g d tb r out t l w (.panicked (hflt a)) w3 from .inr ⟨by rw[h3.out,if_pos hi],FltPost.of hb.out h2⟩);clear h2 hi;go_wp2_with fail;exact⟨rfl,HF.out⟩
 · obtain⟨⟨a,rfl⟩,h2⟩:=hf
   have HF:=hid (show KndPost B g d tb r out t l w (.panicked (hflt a)) w2 from .inr ⟨by rw[h5.out,h1],⟨a,rfl⟩,h2⟩);clear h2 h1;go_wp2_with fail;exact⟨rfl,HF.out⟩
theorem kind4A_any (w:World) (B g d tb r:Nat) (A:Option Addr) (n c:Nat) (l:List UInt8) (ov:Value) (out:List Hd.HdrV) (t:Hk.TM) (h:BR w B g d tb r A n c l ov out t) (hs:hszs out<=16384) (hx:16<=(l.headD 0).toNat) (hb:¬32<=(l.headD 0).toNat):
 Calls Tryz.prog 243 #[.pointer (some ⟨g,0,none⟩)] w (KndPost B g d tb r out t l w):=by
 have HN:=hid (bnamed_any w B g d tb r A n c l ov out t 4 h (by omega));have HS:=hid hs;have h0:=stepT_4 (t:=t) (out:=out) (l:=l) hb;rw[show decide (16<=(l.headD 0).toNat)=true by simpa using hx]at h0;have hc:=hid h0;clear h hs hx hb h0;go_enter Tryz.func243,Tryz.ntmps243;go_wp2_with fail;refine HN.out.mono ?_;intro e w2 hp;rcases hp with⟨hd,rest,A1,n1,c1,h2,rfl,h1,he,h6,h7⟩|⟨h2,hf⟩
 · have h0:=hc.out
   simp only[h2]at h0;obtain⟨hn,hv,hne⟩:=hd;simp only[hdrC]at h6 h7 ⊢;have HX:=hid (Blk.new w2 63 #[.string hn,.string hv,.bool hne]);have hh:=hid ((Below.refl w2.heap.size w2).alloc (Nat.le_refl _) (.cells #[.string hn,.string hv,.bool hne] 63));have ho:=hid (h1.below hh.out);have hq:=hid (he.trans (Bar.below hh.out h1.room.2.2.2 (TX tb r)));have ht:=hid (show∀j,ov.ownBlock=some j->j≠w2.heap.size fromλj e=>by have:=(h1.out_.lt j e).2;omega);have HG:=hid (show B<=w2.heap.size/\g≠w2.heap.size from⟨h1.room.2.2.2,by have:=h1.blk.lt;omega⟩);have h4:=hid h0;have HZ:=hid (And.intro h6 h7);clear h2 h1 he h0 h6 h7;go_upto_region 1 with fail;generalize w2.alloc (.cells #[.string hn,.string hv,.bool hne] 63)=W3 at*
   have x2:=HX.out.cell 2;have xf:=HX.out.frozen 2;have xl:=HX.out.lt;simp only[List.getElem?_toArray,List.getElem?_cons_zero,List.getElem?_cons_succ]at x2;go_upto_region 2 with fail;have h8:=HX.out.put 2 (.bool true);simp only[List.setIfInBounds_toArray,List.set_cons_zero,List.set_cons_succ]at h8;have h5:=hid h8;have hi:=hid (ho.out.put HG.out.1 HG.out.2 ht.out 2 (.bool true));have hj:=hid (hq.out.setCell (p:=⟨w2.heap.size,2,none⟩) (.inl HG.out.1) (.bool true));clear h8 x2 xf xl;generalize W3.setCell ⟨w2.heap.size,2,none⟩ (.bool true)=W4 at*
   have x0:=h5.out.cell 0;have x1:=h5.out.cell 1;have x2:=h5.out.cell 2;have xl:=h5.out.lt;simp only[List.getElem?_toArray,List.getElem?_cons_zero,List.getElem?_cons_succ]at x0 x1 x2;have HT:=hid (btell_any W4 B g d tb r A1 n1 c1 rest ov out t ⟨hn,hv,true⟩ hi.out HZ.out.1 HZ.out.2 HS.out);simp only[hdrC]at HT;go_wp2_with fail;refine HT.out.mono ?_;intro e w5 hp;rcases hp with⟨h9,rfl,ov',hk,hl⟩|⟨hm,hf⟩
   · have HF:=hid (show KndPost B g d tb r out t l w (.returned (.tuple #[])) w5 from .inl ⟨_,_,_,_,_,_,_,by rw[h4.out,if_neg (show¬16384<hszs out+hsz ⟨hn,hv,hne⟩from Nat.not_lt.2 h9)],rfl,hk,hj.out.trans (tel_bar hi.out hl),by rw[hszs_snoc];exact h9⟩)
     clear hk hl h9;go_wp2;go_end0;exact HF.out
   · obtain⟨⟨a,rfl⟩,h3⟩:=hf
     have HF:=hid (show KndPost B g d tb r out t l w (.panicked (hflt a)) w5 from .inr ⟨by rw[h4.out,if_pos (show 16384<hszs out+hsz ⟨hn,hv,hne⟩from hm)],FltPost.of hj.out h3⟩);clear h3 hm;go_wp2_with fail;exact⟨rfl,HF.out⟩
 · obtain⟨⟨a,rfl⟩,h3⟩:=hf
   have HF:=hid (show KndPost B g d tb r out t l w (.panicked (hflt a)) w2 from .inr ⟨by rw[hc.out,h2],⟨a,rfl⟩,h3⟩);clear h3 h2;go_wp2_with fail;exact⟨rfl,HF.out⟩
end Go.Proofs.YtkpppjhbmnfmkaaGreatDoor
end

section
set_option maxHeartbeats 4000000
set_option maxRecDepth 100000
namespace Go.Proofs.YtkpppjhbmnfmkaaGreatDoor
open Go.RowKit Go.Own Go.Own.Cx
attribute [local go_sem] Oper.semAt_some
theorem tm_most (t:Hk.TM) (h:Hd.HdrV):(t.add h).most=t.most:=by
 unfold Hk.TM.add;split<;>rfl
theorem add_ok {t:Hk.TM} (h:Hd.HdrV) (hs:hszs t.E<=t.most):hszs (t.add h).E<=(t.add h).most:=by
 unfold Hk.TM.add
 split
 · exact Nat.zero_le _
 · rename_i h1
   have h2:=Hk.shrink_le (t.most-Hk.hz h) t.E;show hszs (_++[_])<=t.most;rw[hszs_snoc];have h3:hsz (Hk.off h)=Hk.hz h:=rfl;have h4:hszs (Hk.shrink (t.most-Hk.hz h) t.E)=Hk.hzs (Hk.shrink (t.most-Hk.hz h) t.E):=rfl;omega
theorem kind2A_any (w:World) (B g d tb r:Nat) (A:Option Addr) (n c:Nat) (l:List UInt8) (ov:Value) (out:List Hd.HdrV) (t:Hk.TM) (h:BR w B g d tb r A n c l ov out t) (hs:hszs out<=16384) (hx:64<=(l.headD 0).toNat) (hj:¬128<=(l.headD 0).toNat):
 Calls Tryz.prog 239 #[.pointer (some ⟨g,0,none⟩)] w (KndPost B g d tb r out t l w):=by
 have HN:=Lib.hid (bnamed_any w B g d tb r A n c l ov out t 6 h (by omega));have HS:=Lib.hid hs;have hk:=Lib.hid (stepT_6 (t:=t) (out:=out) (l:=l) hj hx);clear h hs hx hj;go_enter Tryz.func239,Tryz.ntmps239;go_wp2_with fail;refine HN.out.mono ?_;intro e w2 hp;rcases hp with⟨hd,rest,A1,n1,c1,h3,rfl,h1,hl,h9,hb⟩|⟨h3,hf⟩
 · have hc:=hk.out
   simp only[h3]at hc;obtain⟨hn,hv,hne⟩:=hd;simp only[hdrC]at h9 hb ⊢;have HX:=Lib.hid (Blk.new w2 63 #[.string hn,.string hv,.bool hne]);have hm:=Lib.hid ((Below.refl w2.heap.size w2).alloc (Nat.le_refl _) (.cells #[.string hn,.string hv,.bool hne] 63));have ho:=Lib.hid (h1.below hm.out);have hq:=Lib.hid (hl.trans (Bar.below hm.out h1.room.2.2.2 (TX tb r)));have hD:=Lib.hid (show∀j,ov.ownBlock=some j->j≠w2.heap.size fromλj e=>by have:=(h1.out_.lt j e).2;omega);have HG:=Lib.hid (show B<=w2.heap.size/\g≠w2.heap.size from⟨h1.room.2.2.2,by have:=h1.blk.lt;omega⟩);have h6:=Lib.hid hc;have HZ:=Lib.hid (And.intro h9 hb);clear h3 h1 hl hc h9 hb;go_upto_region 1 with fail;generalize w2.alloc (.cells #[.string hn,.string hv,.bool hne] 63)=W3 at*
   have x0:=HX.out.cell 0;have x1:=HX.out.cell 1;have x2:=HX.out.cell 2;have xl:=HX.out.lt;simp only[List.getElem?_toArray,List.getElem?_cons_zero,List.getElem?_cons_succ]at x0 x1 x2;have HT:=Lib.hid (btell_any W3 B g d tb r A1 n1 c1 rest ov out t ⟨hn,hv,hne⟩ ho.out HZ.out.1 HZ.out.2 HS.out);simp only[hdrC]at HT;go_wp2_with fail;refine HT.out.mono ?_;intro e w5 hp;rcases hp with⟨he,rfl,ov',h2,hh⟩|⟨ht,hf⟩
   · have hu:Bar (TX tb r) B w w5:=hq.out.trans (tel_bar ho.out hh)
     have h4:Blk w5 w2.heap.size 63 #[.string hn,.string hv,.bool hne]:=hh.blk HX.out HX.out.lt (λhx=>by
      rcases hx with hx|hx
      · exact HG.out.2 hx.symm
      · exact hD.out _ hx rfl)
     have ha:=h2.dt.tab;have hw:=h2.dt.mo;have h7:=Lib.hid (tadd_any w5.drew tb r t.E t.most ⟨hn,hv,hne⟩ ha hw (Nat.le_trans HZ.out.1 (by omega)) (Nat.le_trans HZ.out.2 (by omega)));simp only[hdrC]at h7;have h8:=Lib.hid h2;have hE:=Lib.hid hu;have x0:=h4.cell 0;have x1:=h4.cell 1;have x2:=h4.cell 2;have xl:=h4.lt;simp only[List.getElem?_toArray,List.getElem?_cons_zero,List.getElem?_cons_succ]at x0 x1 x2;have y0:=h2.blk.cell 0;have z0:=h2.dt.dec.cell 0;simp only[List.getElem?_toArray,List.getElem?_cons_zero,List.getElem?_cons_succ]at y0 z0;clear ha hw hh hu h4 h2;go_upto_region 2 with fail;go_still_tail 8,(by kernel_rfl);change wpList _ _ _ _ _ w5.drew;go_wp2_with fail;refine h7.out.mono ?_;rintro e w6 ⟨rfl,hA,hC⟩;have h0:Bar (TX tb r) w5.heap.size w5 w6:=(Bar.refl (TX tb r) w5.heap.size w5).drew.trans (show Bar (TX tb r) w5.heap.size w5.drew w6 from hC);have e1:(Hk.TM.add t ⟨hn,hv,hne⟩).most=t.most:=tm_most t _;have hi:=h8.out.turn hA h0 (by have:=add_ok (t:=t) ⟨hn,hv,hne⟩ h8.out.dt.sz;rw[e1]at this;exact this) h8.out.dt.mo;have e2:(⟨(Hk.TM.add ⟨t.E,t.most⟩ ⟨hn,hv,hne⟩).E,t.most⟩:Hk.TM)=t.add ⟨hn,hv,hne⟩:=by
      have e3:t.add ⟨hn,hv,hne⟩=⟨(t.add ⟨hn,hv,hne⟩).E,(t.add ⟨hn,hv,hne⟩).most⟩:=rfl;rw[e3,e1]
     rw[e2]at hi;have HF:=Lib.hid (show KndPost B g d tb r out t l w (.returned (.tuple #[])) w6 from .inl ⟨_,_,_,_,_,_,_,by rw[h6.out,if_neg (show¬16384<hszs out+hsz ⟨hn,hv,hne⟩from Nat.not_lt.2 he)],rfl,hi,hE.out.trans (h0.mono h8.out.room.2.2.2),by rw[hszs_snoc];exact he⟩);clear hi hC h0 hA e1 e2 he;go_wp2;go_end0;exact HF.out
   · obtain⟨⟨a,rfl⟩,h5⟩:=hf
     have HF:=Lib.hid (show KndPost B g d tb r out t l w (.panicked (hflt a)) w5 from .inr ⟨by rw[h6.out,if_pos (show 16384<hszs out+hsz ⟨hn,hv,hne⟩from ht)],FltPost.of hq.out h5⟩);clear h5 ht;go_wp2_with fail;exact⟨rfl,HF.out⟩
 · obtain⟨⟨a,rfl⟩,h5⟩:=hf
   have HF:=Lib.hid (show KndPost B g d tb r out t l w (.panicked (hflt a)) w2 from .inr ⟨by rw[hk.out,h3],⟨a,rfl⟩,h5⟩);clear h5 h3;go_wp2_with fail;exact⟨rfl,HF.out⟩
theorem kind3A_any (w:World) (B g d tb r:Nat) (A:Option Addr) (n c:Nat) (l:List UInt8) (ov:Value) (out:List Hd.HdrV) (t:Hk.TM) (h:BR w B g d tb r A n c l ov out t) (hs:hszs out<=16384) (hx:32<=(l.headD 0).toNat) (h8:¬64<=(l.headD 0).toNat):
 Calls Tryz.prog 241 #[.pointer (some ⟨g,0,none⟩)] w (KndPost B g d tb r out t l w):=by
 have HK:=Lib.hid h;have HN:=Lib.hid (bnum_any w B g d tb r A n c l ov out t 5 h (by omega));have HS:=Lib.hid hs;have h9:=Lib.hid (stepT_5 (t:=t) (out:=out) (l:=l) h8 hx);clear h hs hx h8;go_enter Tryz.func241,Tryz.ntmps241;go_wp2_with fail;refine HN.out.mono ?_;intro e w1 hp;rcases hp with⟨i,rest,A1,n1,c1,hi,rfl,h1,hb⟩|⟨hi,hf⟩
 · have h6:=h9.out
   simp only[hi]at h6;have h3:=Lib.hid h1;have hc:=Lib.hid (hb.ofG HK.out.hg HK.out.room.2.2.2 (TX tb r));obtain⟨A0,c0,hd,_,_⟩:=h1.out_.form;have y0:=h1.blk.cell 0;have y2:=h1.blk.cell 2;have z0:=h1.dt.dec.cell 0;have z1:=h1.dt.dec.cell 1;have gl:=h1.blk.lt;have dl:=h1.dt.dec.lt;simp only[List.getElem?_toArray,List.getElem?_cons_zero,List.getElem?_cons_succ]at y0 y2 z0 z1;rw[hd]at y2;have hl:i<=1000000000000:=by
    rcases intP_small hi with h|h
    · omega
    · have:(2:Nat)^5=32:=rfl;omega
   have h4:=Lib.hid h6;clear hi h1 hb h6 hd;by_cases h0:out≠[]\/i>4096
   · have hm:=Lib.hid (show stepT t out l=none by rw[h4.out,if_pos h0])
     obtain⟨a,ha⟩:=h3.out.env.tab;have hn:(0<out.length/\decide (0<out.length)=true/\((0:Int)<(out.length:Int)))\/(out.length=0/\(4096:Int)<(i:Int)/\decide ((4096:Int)<(i:Int))=true):=by
      by_cases ho:out=[]
      · exact .inr ⟨by simp[ho],by rcases h0 with h|h;exact absurd ho h;omega,by rcases h0 with h|h;exact absurd ho h;simp;omega⟩
      · exact .inl (by have:=List.length_pos_iff.2 ho;exact⟨this,by simpa using this,by omega⟩)
     clear h0;rcases hn with⟨ho,hu,hA⟩|⟨ho,h5,hC⟩
     all_goals
      try rw[ho]at y2
      go_upto_region 2 with fail;go_wp2_with (first
       |(go_at_call 242
         refine Calls.mono (hgive_err a _) ?_;rintro e w5 ⟨rfl,hw⟩;subst w5)
       |fail)
      exact⟨rfl,.inr ⟨hm.out,⟨a,rfl⟩,⟨t,h3.out.dt⟩,hc.out⟩⟩
   · have ho:out=[]:=Classical.byContradiction λh=>h0 (.inl h)
     have h5:i<=4096:=by have:¬i>4096:=λh=>h0 (.inr h);omega
     have h7:=Lib.hid (show stepT t out l=some (out,rest,t.resize i)by rw[h4.out,if_neg h0]);have HR:=Lib.hid (tresize_any w1 tb r t.E t.most i h3.out.dt.tab h5);have hq:¬(4096:Int)<(i:Int):=by omega
     have hid:decide ((4096:Int)<(i:Int))=false:=by simpa using hq
     have ht:=Lib.hid h5;have hD:((out.length:Nat):Int)=0:=by simp[ho]
     rw[ho]at y2;simp only[List.length_nil]at y2;clear h0 ho h5 hl;go_upto_region 3 with fail;go_wp2_with fail;refine HR.out.mono ?_;rintro e w6 ⟨rfl,he,hh⟩;have h2:Bar (TX tb r) w1.heap.size w1 w6:=hh;have hj:=h3.out.turn he h2 (Hk.shrink_le i t.E) ht.out;have HF:=Lib.hid (show KndPost B g d tb r out t l w (.returned (.tuple #[])) w6 from .inl ⟨_,_,_,_,_,_,_,h7.out,rfl,hj,hc.out.trans (h2.mono h3.out.room.2.2.2),HS.out⟩);clear hj hh h2 he;go_wp2_with (first
      |(go_at_call 242
        with_reducible refine Calls.mono (hgive_nil _) ?_
        rintro e w5 ⟨rfl,hw⟩;subst w5)
      |fail)
     go_end0;exact HF.out
 · obtain⟨⟨a,rfl⟩,hk⟩:=hf
   have HF:=Lib.hid (show KndPost B g d tb r out t l w (.panicked (hflt a)) w1 from .inr ⟨by rw[h9.out,hi],⟨a,rfl⟩,hk⟩);clear hk hi;go_wp2_with fail;exact⟨rfl,HF.out⟩
end Go.Proofs.YtkpppjhbmnfmkaaGreatDoor
end

section
set_option maxHeartbeats 1000000
set_option maxRecDepth 100000
namespace Go.Proofs.YtkpppjhbmnfmkaaGreatDoor
open Lib (hid)
open Go.RowKit Go.Own Go.Own.Cx
attribute [local go_sem] Oper.semAt_some
theorem assert_hflt (v:Value) (w:World):(Instr.typeAssert (.iface 279 v) 20 279 true).run Tryz.prog w= .ok (.tuple #[v,.bool true]) w:=by
 simp[Instr.typeAssert,go_sem]
def goneW (w:World) (d:Nat) (a:Addr):World:=(w.alloc (.cells #[ev a] 279)).setCell ⟨d,2,none⟩ (.bool true)
theorem taken_any (w:World) (d:Nat) (a:Addr) (v0 v1:Value) (h:Blk w d 137 #[v0,v1,.bool false]):
 Calls Tryz.prog 217 #[.pointer (some ⟨d,0,none⟩),.iface 279 (.agg #[ev a])] w λe w'=>e= .returned (ev a)/\w'=goneW w d a:=by
 have h1:=assert_hflt (.agg #[ev a]);have HX:=hid (Blk.new w 279 #[ev a]);have HD:=hid (h.alloc (.cells #[ev a] 279));have h3:=h.lt;unfold goneW;have HW:w.alloc (.cells #[.iface 327 (.pointer (some a))] 279)=w.alloc (.cells #[.iface 327 (.pointer (some a))] 279):=rfl;simp only[ev]at h1 HX HD ⊢;clear h;go_enter Tryz.func217,Tryz.ntmps217;go_upto_region 4 with fail;generalize h0:w.alloc (.cells #[.iface 327 (.pointer (some a))] 279)=W0 at HX HD ⊢;have h2:=hid h0;clear h0 HW;have d2:W0.cell? ⟨d,2,none⟩=some (.bool false):=HD.out.cell 2;have d0:W0.cell? ⟨d,0,none⟩=some v0:=HD.out.cell 0;have df:=HD.out.frozen 2;have x0:W0.cell? ⟨w.heap.size,0,none⟩=some (.iface 327 (.pointer (some a))):=HX.out.cell 0;have xl:=HX.out.lt;have xd:¬w.heap.size=d:=by omega
 have xd':¬d=w.heap.size:=by omega
 go_wp2_with fail;go_ret;exact⟨rfl,by rw[h2.out]⟩
def faultW (w:World) (d g1 g2:Nat) (a:Addr):World:=((goneW w d a).setCell ⟨g1,0,none⟩ (.slice none 0 0)).setCell ⟨g2,0,none⟩ (ev a)
theorem decode1_fault (w:World) (g0 g1 g2 d:Nat) (a:Addr) (v0 v1 u1 u2:Value) (hd:Blk w d 137 #[v0,v1,.bool false]) (h0:Blk w g0 78 #[.pointer (some ⟨d,0,none⟩)]) (h1:Blk w g1 41 #[u1]) (h2:Blk w g2 28 #[u2]) (hn:g1≠d/\g2≠d/\g1≠g2):
 CallsD Tryz.prog 216 #[.pointer (some ⟨g0,0,none⟩),.pointer (some ⟨g1,0,none⟩),.pointer (some ⟨g2,0,none⟩)] (.panicking (hflt a)) w λe u' w'=>
  e= .returned (.tuple #[])/\u'= .panicking [{v:=.iface 279 (.agg #[ev a]),recovered:=true}]/\w'=faultW w d g1 g2 a:=by
 have h4:w.cell? ⟨g0,0,none⟩=some (.pointer (some ⟨d,0,none⟩)):=h0.cell 0;have HT:=hid (taken_any w d a v0 v1 hd);have Hb:∀g,g≠d->∀t cs,Blk w g t cs->Blk (goneW w d a) g t cs:=λg hg t cs h=>(h.alloc _).far (p:=⟨d,2,none⟩) (λe=>hg e) _;have H1:=hid (Hb g1 hn.1 _ _ h1);have H2:=hid (Hb g2 hn.2.1 _ _ h2);have h5:=h0.lt;unfold faultW;have h6:¬g1=g2:=hn.2.2;have h7:¬g2=g1:=λe=>hn.2.2 e.symm;clear hd h0 h1 h2 Hb;simp only[ev]at HT ⊢;refine callsD_of_wpS Tryz.func216 rfl λc₀ cs hu=>?_;change Code.wpS _ _ _ {tmps:=#[.pointer (some ⟨g0,0,none⟩),.pointer (some ⟨g1,0,none⟩),.pointer (some ⟨g2,0,none⟩),undef,undef,undef,undef,undef,undef,undef],defers:=[]} _ _;apply wpS_seq;apply wpS_region;simp[wpOpsS,go_sem,recoverD,hu,hflt,ev,Tryz.ntmps216,Exit.thenS];apply wpS_seq;apply wpS_region;simp[wpOpsS,go_sem,Exit.thenS];refine wpS_cond (t:=true) (by simp[Act.eval,Array.replicate]) ?_;simp only[if_true];refine wpS_of_wp ?_;go_wp2_with fail;refine HT.out.mono ?_;rintro e w1 ⟨rfl,hw⟩;rw[<-hw]at H1 H2;have h3:=hid hw;clear hw;have x1:=H1.out.cell 0;have x2:=H2.out.cell 0;have f1:=H1.out.frozen 0;have f2:=H2.out.frozen 0;simp only[List.getElem?_toArray,List.getElem?_cons_zero]at x1 x2;go_wp2;exact⟨rfl,_,rfl,.tuple #[],by simp[results,Tryz.results216],rfl,rfl,by rw[h3.out]⟩
theorem named_len {bits:Nat} {t:Hk.TM} {l r:List UInt8} {h:Hd.HdrV} (e:Hk.namedP bits t l=some (h,r)):r.length<l.length:=by
 unfold Hk.namedP at e;cases h1:Hk.intP bits l with
 |none=>rw[h1]at e;cases e
 |some p=>
  obtain⟨i,r1⟩:=p;rw[h1]at e;obtain⟨a1,e1,_,e1'⟩:=intP_len2 h1;simp only at e
  split at e
  · cases h2:Hk.textP r1 with
    |none=>rw[h2]at e;cases e
    |some p=>
     obtain⟨s,r2⟩:=p;rw[h2]at e;obtain⟨a2,e2,_⟩:=textP_len2 h2;simp only at e;cases h3:Hk.textP r2 with
     |none=>rw[h3]at e;cases e
     |some p=>
      obtain⟨v,r3⟩:=p;rw[h3]at e;obtain⟨a3,e3,_⟩:=textP_len2 h3;cases e;omega
  · cases h2:t.get i with
    |none=>rw[h2]at e;cases e
    |some hd=>
     rw[h2]at e;simp only at e;cases h3:Hk.textP r1 with
     |none=>rw[h3]at e;cases e
     |some p=>
      obtain⟨v,r3⟩:=p;rw[h3]at e;obtain⟨a3,e3,_⟩:=textP_len2 h3;cases e;omega
theorem stepP_len {t t':Hk.TM} {o:Bool} {l r:List UInt8} {h:Option Hd.HdrV} (e:Hk.stepP t o l=some (h,r,t')):r.length<l.length:=by
 unfold Hk.stepP at e
 split at e
 · cases h1:Hk.intP 7 l with
   |none=>rw[h1]at e;cases e
   |some p=>
    obtain⟨i,r1⟩:=p;rw[h1]at e;obtain⟨a1,e1,_,e1'⟩:=intP_len2 h1;simp only at e;cases h2:t.get i with
    |none=>rw[h2]at e;cases e
    |some hd=>rw[h2]at e;cases e;omega
 · split at e
   · cases h1:Hk.namedP 6 t l with
     |none=>rw[h1]at e;cases e
     |some p=>obtain⟨hd,r1⟩:=p;rw[h1]at e;have:=named_len h1;cases e;omega
   · split at e
     · cases h1:Hk.intP 5 l with
       |none=>rw[h1]at e;cases e
       |some p=>
        obtain⟨i,r1⟩:=p;rw[h1]at e;obtain⟨a1,e1,_,e1'⟩:=intP_len2 h1;simp only at e
        split at e
        · cases e
        · cases e;omega
     · cases h1:Hk.namedP 4 t l with
       |none=>rw[h1]at e;cases e
       |some p=>obtain⟨hd,r1⟩:=p;rw[h1]at e;have:=named_len h1;cases e;omega
theorem stepT_len {t t':Hk.TM} {out out':List Hd.HdrV} {l r:List UInt8} (e:stepT t out l=some (out',r,t')):r.length<l.length:=by
 unfold stepT at e;cases h1:Hk.stepP t (!out.isEmpty) l with
 |none=>rw[h1]at e;cases e
 |some p=>
  obtain⟨h,r1,t1⟩:=p;rw[h1]at e;have:=stepP_len h1;cases h with
  |none=>cases e;exact this
  |some hd=>
   simp only at e
   split at e
   · cases e
   · cases e;exact this
theorem blk_step (k:Nat) (t:Hk.TM) (out:List Hd.HdrV) (x:UInt8) (l:List UInt8):Hk.blockP (k+1) t (hszs out) out (x::l)=match stepT t out (x::l)with|none=>none|some (out',r,t')=>Hk.blockP k t' (hszs out') out' r:=by
 rw[Hk.blockP];unfold stepT;cases Hk.stepP t (!out.isEmpty) (x::l)with
 |none=>rfl
 |some p=>
  obtain⟨h,r1,t1⟩:=p;cases h with
  |none=>rfl
  |some hd=>
   simp only;by_cases hb:16384<hszs out+hsz hd
   · rw[if_pos hb,if_pos (show hszs out+Hk.hz hd>16384 from hb)]
   · rw[if_neg hb,if_neg (show¬hszs out+Hk.hz hd>16384 from hb)]
     simp only;rw[hszs_snoc]
     rfl
def kmask:Nat->Int|0=>128|1=>192|2=>224|_=>240
def kbits:Nat->Int|0=>128|1=>64|2=>32|3=>16|_=>0
def kK (x:Nat):Nat:=if 128<=x then 0 else if 64<=x then 1 else if 32<=x then 2 else if 16<=x then 3 else 4
theorem kK_all:(List.range 256).all (λx=>(List.range 5).all λi=>if i<kK x then decide (bits .and .u8 (x:Int) (kmask i)≠kbits i)else if i=kK x then decide (bits .and .u8 (x:Int) (kmask i)=kbits i)else true)=true:=by kernel_rfl
theorem kK_no {x i:Nat} (hx:x<256) (hi:i<kK x) (h5:i<5):bits .and .u8 (x:Int) (kmask i)≠kbits i:=by
 have h:=List.all_eq_true.1 (List.all_eq_true.1 kK_all x (List.mem_range.2 hx)) i (List.mem_range.2 h5);rw[if_pos hi]at h;exact of_decide_eq_true h
theorem kK_yes {x:Nat} (hx:x<256):bits .and .u8 (x:Int) (kmask (kK x))=kbits (kK x):=by
 have h5:kK x<5:=by unfold kK;(repeat' split)<;>omega
 have h:=List.all_eq_true.1 (List.all_eq_true.1 kK_all x (List.mem_range.2 hx)) (kK x) (List.mem_range.2 h5);rw[if_neg (by omega),if_pos rfl]at h;exact of_decide_eq_true h
theorem kK_5 (x:Nat):kK x<5:=by unfold kK;(repeat' split)<;>omega
end Go.Proofs.YtkpppjhbmnfmkaaGreatDoor
end

section
set_option maxHeartbeats 16000000
set_option maxRecDepth 100000
namespace Go.Proofs.YtkpppjhbmnfmkaaGreatDoor
open Lib (hid)
open Go.RowKit Go.Own Go.Own.Cx
attribute [local go_sem] Oper.semAt_some
theorem _root_.Go.Own.Cx.Bar.weaken {X Y:Nat->Prop} {B:Nat} {w w':World} (h:Bar X B w w') (hx:∀j,X j->Y j):Bar Y B w w':=⟨h.os,h.tape,h.output,h.size,λj hj hn=>h.block j hj λk=>hn (hx j k)⟩
theorem DT.same {w w':World} {d tb r:Nat} {t:Hk.TM} (h:DT w d tb r t) (h1:w'.heap[d]?=w.heap[d]?) (h2:w'.heap[tb]?=w.heap[tb]?) (h3:w'.heap[r]?=w.heap[r]?):DT w' d tb r t:=⟨h1.trans h.dec,h.tab.keep h2 h3,h.sz,h.mo⟩
structure DA (W wr:World) (G d tb r:Nat) (t0:Hk.TM) (l0:List UInt8) (A:Option Addr) (n c:Nat) (l:List UInt8) (ov:Value) (out:List Hd.HdrV) (t:Hk.TM):Prop where
 bk:BR wr G G d tb r A n c l ov out t
 sz:hszs out<=16384
 low:Bar (TX tb r) G W wr
 run_:∃k,l.length<=k/\Hk.decP t0 l0=Hk.blockP k t (hszs out) out l
def DIA (W:World) (G d tb r:Nat) (t0:Hk.TM) (l0:List UInt8) (wr:World):Prop:=∃A n c l ov out t,DA W wr G d tb r t0 l0 A n c l ov out t
section
variable {W wr w3:World} {G d tb r n c n' c':Nat} {t0 t t':Hk.TM} {l0 l rest:List UInt8} {A A':Option Addr} {x:UInt8} {ov ov':Value} {out out':List Hd.HdrV}
theorem DA.none_ (h:DA W wr G d tb r t0 l0 A n c (x::l) ov out t) (hs:stepT t out (x::l)=none):Hk.decP t0 l0=none:=by
 obtain⟨k,hk,he⟩:=h.run_
 match k,hk with
 |k+1,_=>rw[he,blk_step,hs]
theorem DA.next (h:DA W wr G d tb r t0 l0 A n c (x::l) ov out t) (hs:stepT t out (x::l)=some (out',rest,t')) (hk:BR w3 G G d tb r A' n' c' rest ov' out' t') (hb:Bar (TX tb r) G wr w3) (hz:hszs out'<=16384):
 DA W w3 G d tb r t0 l0 A' n' c' rest ov' out' t'/\n'<n:=by
 have h1:=stepT_len hs;have h2:=hk.rd_.1;have h3:=h.bk.rd_.1;refine⟨⟨hk,hz,h.low.trans hb,?_⟩,by omega⟩;obtain⟨k,hk,he⟩:=h.run_
 match k,hk with
 |k+1,hk=>exact⟨k,by simp at hk h1;omega,by rw[he,blk_step,hs]⟩
theorem DA.end_ (h:DA W wr G d tb r t0 l0 A n c [] ov out t):Hk.decP t0 l0=some (out,t):=by
 obtain⟨k,hk,he⟩:=h.run_;rw[he];cases k<;>rfl
end
def DecPost (d tb r:Nat) (t:Hk.TM) (l:List UInt8) (w:World) (e:Ending) (w':World):Prop:=
 (∃hs t' A' c',Hk.decP t l=some (hs,t')/\e= .returned (.tuple #[.slice A' hs.length c',.nilIface])/\hs.length<=c'/\Cm.RS hdrC 3 w' w'.heap.size A' hs.length hs/\(0<hs.length->∀ad,A'=some ad->w.heap.size<=ad.block)/\hszs hs<=16384/\DT w' d tb r t'/\Bar (TX tb r) w.heap.size w w')\/
 (Hk.decP t l=none/\∃a E m,e= .returned (.tuple #[.slice none 0 0,ev a])/\Blk w' d 137 #[.pointer (some ⟨tb,0,none⟩),.int .i64 4096,.bool true]/\TabR w' tb r E m/\hszs E<=m/\m<=4096/\Bar (λj=>TX tb r j\/j=d) w.heap.size w w')
theorem far_ne {w:World} {p:Addr} {v:Value} {j:Nat} (h:j≠p.block):(w.setCell p v).heap[j]?=w.heap[j]?:=Below.heap_setCell _ _ _ j h
theorem faultW_block {w:World} {d g1 g2:Nat} {a:Addr} {j:Nat} (hj:j<w.heap.size) (h0:j≠d) (h1:j≠g1) (h2:j≠g2):(faultW w d g1 g2 a).heap[j]?=w.heap[j]?:=by
 unfold faultW goneW;rw[far_ne h2,far_ne h1,far_ne h0];exact Below.heap_alloc w _ j hj
theorem faultW_cells {w:World} {d g1 g2:Nat} {a:Addr} {u1 u2:Value} (h1:Blk w g1 41 #[u1]) (h2:Blk w g2 28 #[u2]) (hn:g1≠d/\g2≠d/\g1≠g2):(faultW w d g1 g2 a).cell? ⟨g1,0,none⟩=some (.slice none 0 0)/\(faultW w d g1 g2 a).cell? ⟨g2,0,none⟩=some (ev a):=by
 have Hb:∀g,g≠d->∀t cs,Blk w g t cs->Blk (goneW w d a) g t cs:=λg hg t cs h=>(h.alloc _).far (p:=⟨d,2,none⟩) (λe=>hg e) _;exact⟨(((Hb g1 hn.1 _ _ h1).put 0 (.slice none 0 0)).far (p:=⟨g2,0,none⟩) (λe=>hn.2.2 e) _).cell 0,(((Hb g2 hn.2.1 _ _ h2).far (p:=⟨g1,0,none⟩) (λe=>hn.2.2 e.symm) _).put 0 (ev a)).cell 0⟩
theorem dec_fault {w W1 w3:World} {G d tb r:Nat} {t0 t9:Hk.TM} {l0:List UInt8} {a:Addr} (hw:Below w.heap.size w W1) (hb:Bar (TX tb r) G W1 w3) (hG:w.heap.size+1+1<G) (hG3:G<=w3.heap.size) (h0:DT w3 d tb r t9) (hlt:d<w.heap.size/\tb<w.heap.size/\r<w.heap.size) (h2:¬TX tb r d)
 (hno:Hk.decP t0 l0=none):
 DecPost d tb r t0 l0 w (.returned (.tuple #[.slice none 0 0,ev a])) (faultW w3 d (w.heap.size+1) (w.heap.size+1+1) a):=by
 refine .inr ⟨hno,a,t9.E,t9.most,rfl,?_,?_,h0.sz,h0.mo,?_⟩
 · have h:=((h0.dec.alloc (.cells #[ev a] 279)).put 2 (.bool true))
   exact(h.far (p:=⟨w.heap.size+1,0,none⟩) (by simp;omega) _).far (p:=⟨w.heap.size+1+1,0,none⟩) (by simp;omega) _
 · have e1:tb≠d:=λe=>h2 (.inl e.symm)
   have e2:r≠d:=λe=>h2 (.inr e.symm);exact h0.tab.keep (faultW_block (by omega) e1 (by omega) (by omega)) (faultW_block (by omega) e2 (by omega) (by omega))
 · have h1:Bar (λj=>TX tb r j\/j=d) w.heap.size w w3:=(Bar.of hw _).trans ((hb.mono (by omega)).weaken λj h=>.inl h)
   unfold faultW goneW;exact(((h1.alloc (by omega) _).setCell (p:=⟨d,2,none⟩) (.inr (.inr rfl)) _).setCell (p:=⟨w.heap.size+1,0,none⟩) (.inl (by simp)) _).setCell (p:=⟨w.heap.size+1+1,0,none⟩) (.inl (by simp;omega)) _
def IKt (t:Value) (K:Nat):Prop:=t= .int .i64 0\/(t= .int .i64 1/\1<=K)\/(t= .int .i64 2/\2<=K)\/(t= .int .i64 3/\3<=K)\/(t= .int .i64 4/\4<=K)
def ikI (t:Value):Nat:=match t with| .int _ n=>5-n.toNat|_=>0
theorem decodeA_any (w:World) (d tb r:Nat) (t:Hk.TM) (A:Option Addr) (n c B0:Nat) (l:List UInt8) (hd:DT w d tb r t) (hr:Rd w B0 A n l) (hB:B0<=w.heap.size) (hc:n<=c) (hn:n<=1000000)
 (H0:0<n->∀ad,A=some ad->¬TX tb r ad.block) (H1:d<w.heap.size/\tb<w.heap.size/\r<w.heap.size) (hL:¬TX tb r d) (H5:20<=tb/\20<=r) (hE:HpE w):
 Calls Tryz.prog 194 #[.pointer (some ⟨d,0,none⟩),.slice A n c] w (DecPost d tb r t l w):=by
 have Hl:∀(fn:Fn) (first cap:Array Value) (w:World),(Instr.makeFunc fn first cap).run Tryz.prog w= .ok (.func fn first cap) w:=λ_ _ _ _=>rfl;have hR:=hid (((((Below.refl w.heap.size w).alloc (Nat.le_refl _) (.cells #[.pointer (some ⟨d,0,none⟩)] 78)).alloc (by simp) (.cells #[.slice none 0 0] 41))).alloc (by simp;omega) (.cells #[.nilIface] 28));have X0:=hid (((Blk.new w 78 #[.pointer (some ⟨d,0,none⟩)]).alloc (.cells #[.slice none 0 0] 41)).alloc (.cells #[.nilIface] 28));have X1:=hid ((Blk.new (w.alloc (.cells #[.pointer (some ⟨d,0,none⟩)] 78)) 41 #[.slice none 0 0]).alloc (.cells #[.nilIface] 28));have X2:=hid (Blk.new ((w.alloc (.cells #[.pointer (some ⟨d,0,none⟩)] 78)).alloc (.cells #[.slice none 0 0] 41)) 28 #[.nilIface]);have HZ:=hid (show(((w.alloc (.cells #[.pointer (some ⟨d,0,none⟩)] 78)).alloc (.cells #[.slice none 0 0] 41)).alloc (.cells #[.nilIface] 28)).heap.size=w.heap.size+1+1+1 by simp);have H7:=hid (hd.below hR.out H1);have HR:=hid ((hr.more hB).below hR.out);have Hb:=hid (hE.below hR.out hE.room);have hi:=hid H1;have hM:=hid hL;have Hc:=hid H5;have hH:=hid hE.room;have H4:=hid H0;have Hj:=hr.1;have Hm:=H1.1;clear hd hr H1 hL H5 hE H0;simp only[World.size_alloc]at X1 X2;go_enter_defers Tryz.func194,Tryz.ntmps194;go_upto_region 1 with fail;generalize ((w.alloc (.cells #[.pointer (some ⟨d,0,none⟩)] 78)).alloc (.cells #[.slice none 0 0] 41)).alloc (.cells #[.nilIface] 28)=W0 at*
 have d2:W0.cell? ⟨d,2,none⟩=some (.bool false):=H7.out.dec.cell 2;have x0:=X0.out.cell 0;simp only[List.getElem?_toArray,List.getElem?_cons_zero,List.getElem?_cons_succ]at x0;go_wp2_with fail;have hz:=HZ.out;have He:=hid (show DIA (W0.alloc (.cells #[.pointer (some ⟨d,0,none⟩),.slice A n c,.slice none 0 0,.int .i64 0] 255)) W0.heap.size d tb r t l (W0.alloc (.cells #[.pointer (some ⟨d,0,none⟩),.slice A n c,.slice none 0 0,.int .i64 0] 255))from
  ⟨A,n,c,l,.slice none 0 0,[],t,⟨Blk.new W0 _ _,Nat.le_refl _,hc,hn,(HR.out.more (by omega)).alloc (Nat.le_refl _) _,H4.out,H7.out.below ((Below.refl W0.heap.size W0).alloc (Nat.le_refl _) _) (by have:=hi.out;omega),(by have:=hi.out;omega),hM.out,(by have:=hi.out;have:=Hc.out;have:=hH.out;simp;omega),Cm.Ew.nil _ _ _ _ _,(λj e=>by cases e),Hb.out.below ((Below.refl W0.heap.size W0).alloc (Nat.le_refl _) _) (by have:=hH.out;omega)⟩,
    Nat.zero_le _,Bar.refl _ _ _,⟨l.length,Nat.le_refl _,rfl⟩⟩)
 have Y1:=hid (X1.out.alloc (.cells #[.pointer (some ⟨d,0,none⟩),.slice A n c,.slice none 0 0,.int .i64 0] 255));have Y2:=hid (X2.out.alloc (.cells #[.pointer (some ⟨d,0,none⟩),.slice A n c,.slice none 0 0,.int .i64 0] 255));have Y0:=hid (X0.out.alloc (.cells #[.pointer (some ⟨d,0,none⟩),.slice A n c,.slice none 0 0,.int .i64 0] 255));have hN:=hid (hR.out.alloc hR.out.size (.cells #[.pointer (some ⟨d,0,none⟩),.slice A n c,.slice none 0 0,.int .i64 0] 255));generalize W0.alloc (.cells #[.pointer (some ⟨d,0,none⟩),.slice A n c,.slice none 0 0,.int .i64 0] 255)=W1 at*
 have hS:w.heap.size+1+1<W0.heap.size:=by omega
 clear d2 x0 hz HZ;generalize W0.heap.size=G at*
 have hh:=hid (show∀j,w.heap.size<=j->¬TX tb r j fromλj hj hx=>by have:=hi.out;rcases hx with hx|hx<;>omega);go_loopw [24] (λ_ wr=>DIA W1 G d tb r t l wr) (λ_ wr=>lenK wr G)
 case atStart=>exact He.out
 case round=>
  obtain⟨A1,n1,c1,l1,ov1,out,t1,hj⟩:=hrel;have HJ:=hid hj;have k1:wr.cell? ⟨G,1,none⟩=some (.slice A1 n1 c1):=hj.bk.blk.cell 1;have hT:lenK wr G=n1:=lenK_of k1;obtain⟨Ao,co,H2,Hg,_⟩:=hj.bk.out_.form;have k2:wr.cell? ⟨G,2,none⟩=some ov1:=hj.bk.blk.cell 2;rw[H2]at k2;have z0:Blk wr w.heap.size 78 #[.pointer (some ⟨d,0,none⟩)]:=hj.low.blk Y0.out (by omega) (hh.out _ (Nat.le_refl _));have z1:Blk wr (w.heap.size+1) 41 #[.slice none 0 0]:=hj.low.blk Y1.out (by omega) (hh.out _ (by omega));have z2:Blk wr (w.heap.size+1+1) 28 #[.nilIface]:=hj.low.blk Y2.out (by omega) (hh.out _ (by omega));have hU:=hid z0;have hO:=hid z1;have hP:=hid z2;clear hj;cases l1 with
  |nil=>
   obtain rfl:n1=0:=by have:=HJ.out.bk.rd_.1;simpa using this.symm
   have y1:=z1.cell 0;have y2:=z2.cell 0;have f1:=z1.frozen 0;have f2:=z2.frozen 0;simp only[List.getElem?_toArray,List.getElem?_cons_zero]at y1 y2;go_wp2;refine leaves_cons (f:=216) (args:=#[.pointer (some ⟨w.heap.size,0,none⟩),.pointer (some ⟨w.heap.size+1,0,none⟩),.pointer (some ⟨w.heap.size+1+1,0,none⟩)]) (by simp) (by simp[go_sem]) ?_;refine(decode1_idle _ _ _ _).mono ?_;rintro e u' w'' ⟨rfl,rfl,rfl⟩;have Hh:wr.heap.size=((wr.setCell ⟨w.heap.size+1,0,none⟩ (.slice Ao out.length co)).setCell ⟨w.heap.size+1+1,0,none⟩ .nilIface).heap.size:=by simp[World.setCell]
   have H3:=HJ.out.bk.out_;rw[H2]at H3;have Hn:out.length<=1000:=by have h1:=hszs_32 out;have h2:=HJ.out.sz;omega
   have Hi:=H3.rs (λ_=>rfl) (by omega);have hF:=H3.from;have hl:=hi.out;refine⟨_,results_decode _ _ (w.heap.size+1) (w.heap.size+1+1) _ _ rfl rfl (((hO.out.put 0 _).far (p:=⟨w.heap.size+1+1,0,none⟩) (by simp) _).cell 0) (((hP.out.far (p:=⟨w.heap.size+1,0,none⟩) (by simp) _).put 0 _).cell 0),.inl ⟨out,t1,Ao,co,HJ.out.end_,rfl,Hg,?_,λ_ ad e=>by have:=hF ad e;omega,HJ.out.sz,?_,?_⟩⟩
   · rw[<-Hh]
     exact(Hi.setCell (λad e=>by have:=hF ad e;simp;omega) _).setCell (λad e=>by have:=hF ad e;simp;omega) _
   · exact HJ.out.bk.dt.same ((far_ne (by simp;omega)).trans (far_ne (by simp;omega))) ((far_ne (by simp;omega)).trans (far_ne (by simp;omega))) ((far_ne (by simp;omega)).trans (far_ne (by simp;omega)))
   · exact(((Bar.of hN.out _).trans (HJ.out.low.mono (by omega))).setCell (p:=⟨w.heap.size+1,0,none⟩) (.inl (by simp)) _).setCell (p:=⟨w.heap.size+1+1,0,none⟩) (.inl (by simp;omega)) _
  |cons x l'=>
   obtain⟨k,rfl⟩:∃k,n1=k+1:=⟨l'.length,by have:=HJ.out.bk.rd_.1;simp at this;omega⟩;obtain⟨ad,hA,Ho,hcell⟩:=HJ.out.bk.rd_.at_ (k:=0) (by omega);subst hA;have hcell:wr.cell? ad=some (.int .u8 (x.toNat:Int)):=hcell;have hG:=hid (show x.toNat<256 from x.toNat_lt);have HX:=hid (show((x::l').headD 0).toNat=x.toNat from rfl);have H8:=HJ.out.bk.room.2.2.2;have hV:=hid ((Below.refl wr.heap.size wr).alloc (Nat.le_refl _) (.cells kindC 260));have HQ:=hid (Blk.new wr 260 kindC);clear H2;generalize Hp:x.toNat=xn at*
   go_wp2_with (first
    |(go_at_call 218
      refine Calls.mono (kinds_any _) ?_;rintro e w1 ⟨rfl,hw⟩;rw[<-hw]at hV HQ;clear hw)
    |fail)
   have hQ:=hid (HJ.out.bk.below hV.out);have h3:=hid (Bar.below hV.out H8 (TX tb r));have h8:=hid (Nat.le_trans H8 hV.out.size);have H9:=HQ.out.lt;have hW:=hid (show w1.cell? ad=_ from(World.cell?_of_block (hV.out.block _ (by omega))).trans hcell);have k1':w1.cell? ⟨G,1,none⟩=some (.slice (some ad) (k+1) c1):=hQ.out.blk.cell 1;have hX:=hid (show ad.block<w1.heap.size from by omega);have h9:=hid H9;clear hcell k1 k2 k1' H9;generalize Ha:wr=wo at*
   have hY:=hid Ha;clear Ha;go_loopw [27] (λtv wr=>IKt tv (kK xn)/\Below w1.heap.size w1 wr) (λtv _=>ikI tv)
   case atStart=>exact⟨.inl rfl,Below.refl _ _⟩
   case round=>
    obtain⟨hZ,h0⟩:=hrel;rcases hZ with rfl|⟨rfl,hZ⟩|⟨rfl,hZ⟩|⟨rfl,hZ⟩|⟨rfl,hZ⟩
    · have q0:wr.cell? ⟨wo.heap.size,0,none⟩=some (.int .u8 128):=(HQ.out.below h0 h9.out).cell 0
      have q1:wr.cell? ⟨wo.heap.size,1,none⟩=some (.int .u8 128):=(HQ.out.below h0 h9.out).cell 1;have q2:wr.cell? ⟨wo.heap.size,2,none⟩=some (.func (.func 235) #[] #[]):=(HQ.out.below h0 h9.out).cell 2;have ql:=(HQ.out.below h0 h9.out).lt;have hb:=hid (Blk.new wr 260 #[.int .u8 128,.int .u8 128,.func (.func 235) #[] #[]]);have h6:=hid (h0.alloc h0.size (.cells #[.int .u8 128,.int .u8 128,.func (.func 235) #[] #[]] 260));clear h0;go_upto_region 9 with fail;generalize wr.alloc (.cells #[.int .u8 128,.int .u8 128,.func (.func 235) #[] #[]] 260)=W2 at*
      have v0:W2.cell? ⟨wr.heap.size,0,none⟩=some (.int .u8 128):=hb.out.cell 0;have v1:W2.cell? ⟨wr.heap.size,1,none⟩=some (.int .u8 128):=hb.out.cell 1;have v2:W2.cell? ⟨wr.heap.size,2,none⟩=some (.func (.func 235) #[] #[]):=hb.out.cell 2;have hk:=hid (λj=>hQ.out.below (bdN h6.out j));have kk:W2.cell? ⟨G,1,none⟩=some (.slice (some ad) (k+1) c1):=(hk.out 0).blk.cell 1;have kc:W2.cell? ad=some (.int .u8 (xn:Int)):=(World.cell?_of_block (h6.out.block _ hX.out)).trans hW.out;clear q0 q1 q2 ql;by_cases hK:kK xn=0
      · have hD:=hid (show 128<=xn by have h:=hK;unfold kK at h;(repeat' split at h)<;>omega)
        have h7:bits .and .u8 (xn:Int) 128=128:=by have h:=kK_yes hG.out;rw[hK]at h;exact h
        clear hK;go_quiet (fail);go_wp2_with fail;refine Calls.mono (kind1A_any _ G G d tb r (some ad) (k+1) c1 (x::l') ov1 out t1 (hk.out _) HJ.out.sz (by rw[HX.out];exact hD.out)) ?_;intro e w3 hp;rcases hp with⟨out',rest,t',A',n',c',ov',h4,rfl,hm,h5,hs3⟩|⟨h4,⟨a,rfl⟩,⟨t9,ho⟩,h5⟩
        · have hq:=HJ.out.next h4 hm (h3.out.trans (((Bar.of (bdN h6.out _) (TX tb r)).mono h8.out).trans h5)) hs3
          have he:=hid hq;clear hq h4 hm h5 hs3;go_wp2;exact⟨⟨A',n',c',rest,ov',out',t',he.out.1⟩,by rw[lenK_of (he.out.1.bk.blk.cell 1),hY.out,hT];exact he.out.2⟩
        · have hs:=h3.out.trans (((Bar.of (bdN h6.out _) (TX tb r)).mono h8.out).trans h5)
          have ht:=HJ.out.none_ h4;have HF:=hid (And.intro hs (And.intro ht ho));clear hs ht ho h4 h5;go_wp2_with fail;have hl:=hi.out;have hf:=HJ.out.low.trans HF.out.1;refine leaves_cons (f:=216) (args:=#[.pointer (some ⟨w.heap.size,0,none⟩),.pointer (some ⟨w.heap.size+1,0,none⟩),.pointer (some ⟨w.heap.size+1+1,0,none⟩)]) (by simp) (by simp[go_sem]) ?_;have z1':=HF.out.1.blk hO.out (by omega) (hh.out _ (by omega));have z2':=HF.out.1.blk hP.out (by omega) (hh.out _ (by omega));have hu:w.heap.size+1≠d/\w.heap.size+1+1≠d/\w.heap.size+1≠w.heap.size+1+1:=by omega
          refine(decode1_fault w3 w.heap.size (w.heap.size+1) (w.heap.size+1+1) d a _ _ _ _ HF.out.2.2.dec (HF.out.1.blk hU.out (by omega) (hh.out _ (Nat.le_refl _))) z1' z2' hu).mono ?_;rintro e u' w'' ⟨rfl,rfl,rfl⟩;have hC:=faultW_cells (a:=a) z1' z2' hu;exact⟨_,results_decode _ _ (w.heap.size+1) (w.heap.size+1+1) _ _ rfl rfl hC.1 hC.2,dec_fault hN.out hf hS (Nat.le_trans HJ.out.bk.room.2.2.2 HF.out.1.size) HF.out.2.2 hi.out hM.out HF.out.2.1⟩
      · obtain⟨v,h7⟩:∃v,bits .and .u8 (xn:Int) 128=v:=⟨_,rfl⟩
        have hI:¬v=128:=λe=>kK_no hG.out (show 0<kK xn by omega) (by omega) (h7.trans e);have hL:decide (v=128)=false:=by simpa using hI
        have hJ:=hid (show 1<=kK xn by omega);clear hK;go_quiet (fail);go_wp2_with fail;exact⟨⟨.inr (.inl ⟨rfl,hJ.out⟩),bdN h6.out _⟩,by simp[ikI]⟩
    · have q0:wr.cell? ⟨wo.heap.size,3,none⟩=some (.int .u8 192):=(HQ.out.below h0 h9.out).cell 3
      have q1:wr.cell? ⟨wo.heap.size,4,none⟩=some (.int .u8 64):=(HQ.out.below h0 h9.out).cell 4;have q2:wr.cell? ⟨wo.heap.size,5,none⟩=some (.func (.func 239) #[] #[]):=(HQ.out.below h0 h9.out).cell 5;have ql:=(HQ.out.below h0 h9.out).lt;have hb:=hid (Blk.new wr 260 #[.int .u8 192,.int .u8 64,.func (.func 239) #[] #[]]);have h6:=hid (h0.alloc h0.size (.cells #[.int .u8 192,.int .u8 64,.func (.func 239) #[] #[]] 260));clear h0;go_upto_region 9 with fail;generalize wr.alloc (.cells #[.int .u8 192,.int .u8 64,.func (.func 239) #[] #[]] 260)=W2 at*
      have v0:W2.cell? ⟨wr.heap.size,0,none⟩=some (.int .u8 192):=hb.out.cell 0;have v1:W2.cell? ⟨wr.heap.size,1,none⟩=some (.int .u8 64):=hb.out.cell 1;have v2:W2.cell? ⟨wr.heap.size,2,none⟩=some (.func (.func 239) #[] #[]):=hb.out.cell 2;have hk:=hid (λj=>hQ.out.below (bdN h6.out j));have kk:W2.cell? ⟨G,1,none⟩=some (.slice (some ad) (k+1) c1):=(hk.out 0).blk.cell 1;have kc:W2.cell? ad=some (.int .u8 (xn:Int)):=(World.cell?_of_block (h6.out.block _ hX.out)).trans hW.out;clear q0 q1 q2 ql;by_cases hK:kK xn=1
      · have hD:=hid (show 64<=xn/\¬128<=xn by have h:=hK;unfold kK at h;(repeat' split at h)<;>omega)
        have h7:bits .and .u8 (xn:Int) 192=64:=by have h:=kK_yes hG.out;rw[hK]at h;exact h
        clear hK;go_quiet (fail);go_wp2_with fail;refine Calls.mono (kind2A_any _ G G d tb r (some ad) (k+1) c1 (x::l') ov1 out t1 (hk.out _) HJ.out.sz (by rw[HX.out];exact hD.out.1) (by rw[HX.out];exact hD.out.2)) ?_;intro e w3 hp;rcases hp with⟨out',rest,t',A',n',c',ov',h4,rfl,hm,h5,hs3⟩|⟨h4,⟨a,rfl⟩,⟨t9,ho⟩,h5⟩
        · have hq:=HJ.out.next h4 hm (h3.out.trans (((Bar.of (bdN h6.out _) (TX tb r)).mono h8.out).trans h5)) hs3
          have he:=hid hq;clear hq h4 hm h5 hs3;go_wp2;exact⟨⟨A',n',c',rest,ov',out',t',he.out.1⟩,by rw[lenK_of (he.out.1.bk.blk.cell 1),hY.out,hT];exact he.out.2⟩
        · have hs:=h3.out.trans (((Bar.of (bdN h6.out _) (TX tb r)).mono h8.out).trans h5)
          have ht:=HJ.out.none_ h4;have HF:=hid (And.intro hs (And.intro ht ho));clear hs ht ho h4 h5;go_wp2_with fail;have hl:=hi.out;have hf:=HJ.out.low.trans HF.out.1;refine leaves_cons (f:=216) (args:=#[.pointer (some ⟨w.heap.size,0,none⟩),.pointer (some ⟨w.heap.size+1,0,none⟩),.pointer (some ⟨w.heap.size+1+1,0,none⟩)]) (by simp) (by simp[go_sem]) ?_;have z1':=HF.out.1.blk hO.out (by omega) (hh.out _ (by omega));have z2':=HF.out.1.blk hP.out (by omega) (hh.out _ (by omega));have hu:w.heap.size+1≠d/\w.heap.size+1+1≠d/\w.heap.size+1≠w.heap.size+1+1:=by omega
          refine(decode1_fault w3 w.heap.size (w.heap.size+1) (w.heap.size+1+1) d a _ _ _ _ HF.out.2.2.dec (HF.out.1.blk hU.out (by omega) (hh.out _ (Nat.le_refl _))) z1' z2' hu).mono ?_;rintro e u' w'' ⟨rfl,rfl,rfl⟩;have hC:=faultW_cells (a:=a) z1' z2' hu;exact⟨_,results_decode _ _ (w.heap.size+1) (w.heap.size+1+1) _ _ rfl rfl hC.1 hC.2,dec_fault hN.out hf hS (Nat.le_trans HJ.out.bk.room.2.2.2 HF.out.1.size) HF.out.2.2 hi.out hM.out HF.out.2.1⟩
      · obtain⟨v,h7⟩:∃v,bits .and .u8 (xn:Int) 192=v:=⟨_,rfl⟩
        have hI:¬v=64:=λe=>kK_no hG.out (show 1<kK xn by omega) (by omega) (h7.trans e);have hL:decide (v=64)=false:=by simpa using hI
        have hJ:=hid (show 2<=kK xn by omega);clear hK;go_quiet (fail);go_wp2_with fail;exact⟨⟨.inr (.inr (.inl ⟨rfl,hJ.out⟩)),bdN h6.out _⟩,by simp[ikI]⟩
    · have q0:wr.cell? ⟨wo.heap.size,6,none⟩=some (.int .u8 224):=(HQ.out.below h0 h9.out).cell 6
      have q1:wr.cell? ⟨wo.heap.size,7,none⟩=some (.int .u8 32):=(HQ.out.below h0 h9.out).cell 7;have q2:wr.cell? ⟨wo.heap.size,8,none⟩=some (.func (.func 241) #[] #[]):=(HQ.out.below h0 h9.out).cell 8;have ql:=(HQ.out.below h0 h9.out).lt;have hb:=hid (Blk.new wr 260 #[.int .u8 224,.int .u8 32,.func (.func 241) #[] #[]]);have h6:=hid (h0.alloc h0.size (.cells #[.int .u8 224,.int .u8 32,.func (.func 241) #[] #[]] 260));clear h0;go_upto_region 9 with fail;generalize wr.alloc (.cells #[.int .u8 224,.int .u8 32,.func (.func 241) #[] #[]] 260)=W2 at*
      have v0:W2.cell? ⟨wr.heap.size,0,none⟩=some (.int .u8 224):=hb.out.cell 0;have v1:W2.cell? ⟨wr.heap.size,1,none⟩=some (.int .u8 32):=hb.out.cell 1;have v2:W2.cell? ⟨wr.heap.size,2,none⟩=some (.func (.func 241) #[] #[]):=hb.out.cell 2;have hk:=hid (λj=>hQ.out.below (bdN h6.out j));have kk:W2.cell? ⟨G,1,none⟩=some (.slice (some ad) (k+1) c1):=(hk.out 0).blk.cell 1;have kc:W2.cell? ad=some (.int .u8 (xn:Int)):=(World.cell?_of_block (h6.out.block _ hX.out)).trans hW.out;clear q0 q1 q2 ql;by_cases hK:kK xn=2
      · have hD:=hid (show 32<=xn/\¬64<=xn by have h:=hK;unfold kK at h;(repeat' split at h)<;>omega)
        have h7:bits .and .u8 (xn:Int) 224=32:=by have h:=kK_yes hG.out;rw[hK]at h;exact h
        clear hK;go_quiet (fail);go_wp2_with fail;refine Calls.mono (kind3A_any _ G G d tb r (some ad) (k+1) c1 (x::l') ov1 out t1 (hk.out _) HJ.out.sz (by rw[HX.out];exact hD.out.1) (by rw[HX.out];exact hD.out.2)) ?_;intro e w3 hp;rcases hp with⟨out',rest,t',A',n',c',ov',h4,rfl,hm,h5,hs3⟩|⟨h4,⟨a,rfl⟩,⟨t9,ho⟩,h5⟩
        · have hq:=HJ.out.next h4 hm (h3.out.trans (((Bar.of (bdN h6.out _) (TX tb r)).mono h8.out).trans h5)) hs3
          have he:=hid hq;clear hq h4 hm h5 hs3;go_wp2;exact⟨⟨A',n',c',rest,ov',out',t',he.out.1⟩,by rw[lenK_of (he.out.1.bk.blk.cell 1),hY.out,hT];exact he.out.2⟩
        · have hs:=h3.out.trans (((Bar.of (bdN h6.out _) (TX tb r)).mono h8.out).trans h5)
          have ht:=HJ.out.none_ h4;have HF:=hid (And.intro hs (And.intro ht ho));clear hs ht ho h4 h5;go_wp2_with fail;have hl:=hi.out;have hf:=HJ.out.low.trans HF.out.1;refine leaves_cons (f:=216) (args:=#[.pointer (some ⟨w.heap.size,0,none⟩),.pointer (some ⟨w.heap.size+1,0,none⟩),.pointer (some ⟨w.heap.size+1+1,0,none⟩)]) (by simp) (by simp[go_sem]) ?_;have z1':=HF.out.1.blk hO.out (by omega) (hh.out _ (by omega));have z2':=HF.out.1.blk hP.out (by omega) (hh.out _ (by omega));have hu:w.heap.size+1≠d/\w.heap.size+1+1≠d/\w.heap.size+1≠w.heap.size+1+1:=by omega
          refine(decode1_fault w3 w.heap.size (w.heap.size+1) (w.heap.size+1+1) d a _ _ _ _ HF.out.2.2.dec (HF.out.1.blk hU.out (by omega) (hh.out _ (Nat.le_refl _))) z1' z2' hu).mono ?_;rintro e u' w'' ⟨rfl,rfl,rfl⟩;have hC:=faultW_cells (a:=a) z1' z2' hu;exact⟨_,results_decode _ _ (w.heap.size+1) (w.heap.size+1+1) _ _ rfl rfl hC.1 hC.2,dec_fault hN.out hf hS (Nat.le_trans HJ.out.bk.room.2.2.2 HF.out.1.size) HF.out.2.2 hi.out hM.out HF.out.2.1⟩
      · obtain⟨v,h7⟩:∃v,bits .and .u8 (xn:Int) 224=v:=⟨_,rfl⟩
        have hI:¬v=32:=λe=>kK_no hG.out (show 2<kK xn by omega) (by omega) (h7.trans e);have hL:decide (v=32)=false:=by simpa using hI
        have hJ:=hid (show 3<=kK xn by omega);clear hK;go_quiet (fail);go_wp2_with fail;exact⟨⟨.inr (.inr (.inr (.inl ⟨rfl,hJ.out⟩))),bdN h6.out _⟩,by simp[ikI]⟩
    · have q0:wr.cell? ⟨wo.heap.size,9,none⟩=some (.int .u8 240):=(HQ.out.below h0 h9.out).cell 9
      have q1:wr.cell? ⟨wo.heap.size,10,none⟩=some (.int .u8 16):=(HQ.out.below h0 h9.out).cell 10;have q2:wr.cell? ⟨wo.heap.size,11,none⟩=some (.func (.func 243) #[] #[]):=(HQ.out.below h0 h9.out).cell 11;have ql:=(HQ.out.below h0 h9.out).lt;have hb:=hid (Blk.new wr 260 #[.int .u8 240,.int .u8 16,.func (.func 243) #[] #[]]);have h6:=hid (h0.alloc h0.size (.cells #[.int .u8 240,.int .u8 16,.func (.func 243) #[] #[]] 260));clear h0;go_upto_region 9 with fail;generalize wr.alloc (.cells #[.int .u8 240,.int .u8 16,.func (.func 243) #[] #[]] 260)=W2 at*
      have v0:W2.cell? ⟨wr.heap.size,0,none⟩=some (.int .u8 240):=hb.out.cell 0;have v1:W2.cell? ⟨wr.heap.size,1,none⟩=some (.int .u8 16):=hb.out.cell 1;have v2:W2.cell? ⟨wr.heap.size,2,none⟩=some (.func (.func 243) #[] #[]):=hb.out.cell 2;have hk:=hid (λj=>hQ.out.below (bdN h6.out j));have kk:W2.cell? ⟨G,1,none⟩=some (.slice (some ad) (k+1) c1):=(hk.out 0).blk.cell 1;have kc:W2.cell? ad=some (.int .u8 (xn:Int)):=(World.cell?_of_block (h6.out.block _ hX.out)).trans hW.out;clear q0 q1 q2 ql;by_cases hK:kK xn=3
      · have hD:=hid (show 16<=xn/\¬32<=xn by have h:=hK;unfold kK at h;(repeat' split at h)<;>omega)
        have h7:bits .and .u8 (xn:Int) 240=16:=by have h:=kK_yes hG.out;rw[hK]at h;exact h
        clear hK;go_quiet (fail);go_wp2_with fail;refine Calls.mono (kind4A_any _ G G d tb r (some ad) (k+1) c1 (x::l') ov1 out t1 (hk.out _) HJ.out.sz (by rw[HX.out];exact hD.out.1) (by rw[HX.out];exact hD.out.2)) ?_;intro e w3 hp;rcases hp with⟨out',rest,t',A',n',c',ov',h4,rfl,hm,h5,hs3⟩|⟨h4,⟨a,rfl⟩,⟨t9,ho⟩,h5⟩
        · have hq:=HJ.out.next h4 hm (h3.out.trans (((Bar.of (bdN h6.out _) (TX tb r)).mono h8.out).trans h5)) hs3
          have he:=hid hq;clear hq h4 hm h5 hs3;go_wp2;exact⟨⟨A',n',c',rest,ov',out',t',he.out.1⟩,by rw[lenK_of (he.out.1.bk.blk.cell 1),hY.out,hT];exact he.out.2⟩
        · have hs:=h3.out.trans (((Bar.of (bdN h6.out _) (TX tb r)).mono h8.out).trans h5)
          have ht:=HJ.out.none_ h4;have HF:=hid (And.intro hs (And.intro ht ho));clear hs ht ho h4 h5;go_wp2_with fail;have hl:=hi.out;have hf:=HJ.out.low.trans HF.out.1;refine leaves_cons (f:=216) (args:=#[.pointer (some ⟨w.heap.size,0,none⟩),.pointer (some ⟨w.heap.size+1,0,none⟩),.pointer (some ⟨w.heap.size+1+1,0,none⟩)]) (by simp) (by simp[go_sem]) ?_;have z1':=HF.out.1.blk hO.out (by omega) (hh.out _ (by omega));have z2':=HF.out.1.blk hP.out (by omega) (hh.out _ (by omega));have hu:w.heap.size+1≠d/\w.heap.size+1+1≠d/\w.heap.size+1≠w.heap.size+1+1:=by omega
          refine(decode1_fault w3 w.heap.size (w.heap.size+1) (w.heap.size+1+1) d a _ _ _ _ HF.out.2.2.dec (HF.out.1.blk hU.out (by omega) (hh.out _ (Nat.le_refl _))) z1' z2' hu).mono ?_;rintro e u' w'' ⟨rfl,rfl,rfl⟩;have hC:=faultW_cells (a:=a) z1' z2' hu;exact⟨_,results_decode _ _ (w.heap.size+1) (w.heap.size+1+1) _ _ rfl rfl hC.1 hC.2,dec_fault hN.out hf hS (Nat.le_trans HJ.out.bk.room.2.2.2 HF.out.1.size) HF.out.2.2 hi.out hM.out HF.out.2.1⟩
      · obtain⟨v,h7⟩:∃v,bits .and .u8 (xn:Int) 240=v:=⟨_,rfl⟩
        have hI:¬v=16:=λe=>kK_no hG.out (show 3<kK xn by omega) (by omega) (h7.trans e);have hL:decide (v=16)=false:=by simpa using hI
        have hJ:=hid (show 4<=kK xn by omega);clear hK;go_quiet (fail);go_wp2_with fail;exact⟨⟨.inr (.inr (.inr (.inr ⟨rfl,hJ.out⟩))),bdN h6.out _⟩,by simp[ikI]⟩
    · have q0:wr.cell? ⟨wo.heap.size,12,none⟩=some (.int .u8 240):=(HQ.out.below h0 h9.out).cell 12
      have q1:wr.cell? ⟨wo.heap.size,13,none⟩=some (.int .u8 0):=(HQ.out.below h0 h9.out).cell 13;have q2:wr.cell? ⟨wo.heap.size,14,none⟩=some (.func (.func 244) #[] #[]):=(HQ.out.below h0 h9.out).cell 14;have ql:=(HQ.out.below h0 h9.out).lt;have hb:=hid (Blk.new wr 260 #[.int .u8 240,.int .u8 0,.func (.func 244) #[] #[]]);have h6:=hid (h0.alloc h0.size (.cells #[.int .u8 240,.int .u8 0,.func (.func 244) #[] #[]] 260));clear h0;go_upto_region 9 with fail;generalize wr.alloc (.cells #[.int .u8 240,.int .u8 0,.func (.func 244) #[] #[]] 260)=W2 at*
      have v0:W2.cell? ⟨wr.heap.size,0,none⟩=some (.int .u8 240):=hb.out.cell 0;have v1:W2.cell? ⟨wr.heap.size,1,none⟩=some (.int .u8 0):=hb.out.cell 1;have v2:W2.cell? ⟨wr.heap.size,2,none⟩=some (.func (.func 244) #[] #[]):=hb.out.cell 2;have hk:=hid (λj=>hQ.out.below (bdN h6.out j));have kk:W2.cell? ⟨G,1,none⟩=some (.slice (some ad) (k+1) c1):=(hk.out 0).blk.cell 1;have kc:W2.cell? ad=some (.int .u8 (xn:Int)):=(World.cell?_of_block (h6.out.block _ hX.out)).trans hW.out;clear q0 q1 q2 ql;have hK:kK xn=4:=by have:=kK_5 xn;omega
      have hD:=hid (show¬16<=xn by have h:=hK;unfold kK at h;(repeat' split at h)<;>omega);have h7:bits .and .u8 (xn:Int) 240=0:=by have h:=kK_yes hG.out;rw[hK]at h;exact h
      clear hK;go_quiet (fail);go_wp2_with fail;refine Calls.mono (kind5A_any _ G G d tb r (some ad) (k+1) c1 (x::l') ov1 out t1 (hk.out _) HJ.out.sz (by rw[HX.out];exact hD.out)) ?_;intro e w3 hp;rcases hp with⟨out',rest,t',A',n',c',ov',h4,rfl,hm,h5,hs3⟩|⟨h4,⟨a,rfl⟩,⟨t9,ho⟩,h5⟩
      · have hq:=HJ.out.next h4 hm (h3.out.trans (((Bar.of (bdN h6.out _) (TX tb r)).mono h8.out).trans h5)) hs3
        have he:=hid hq;clear hq h4 hm h5 hs3;go_wp2;exact⟨⟨A',n',c',rest,ov',out',t',he.out.1⟩,by rw[lenK_of (he.out.1.bk.blk.cell 1),hY.out,hT];exact he.out.2⟩
      · have hs:=h3.out.trans (((Bar.of (bdN h6.out _) (TX tb r)).mono h8.out).trans h5)
        have ht:=HJ.out.none_ h4;have HF:=hid (And.intro hs (And.intro ht ho));clear hs ht ho h4 h5;go_wp2_with fail;have hl:=hi.out;have hf:=HJ.out.low.trans HF.out.1;refine leaves_cons (f:=216) (args:=#[.pointer (some ⟨w.heap.size,0,none⟩),.pointer (some ⟨w.heap.size+1,0,none⟩),.pointer (some ⟨w.heap.size+1+1,0,none⟩)]) (by simp) (by simp[go_sem]) ?_;have z1':=HF.out.1.blk hO.out (by omega) (hh.out _ (by omega));have z2':=HF.out.1.blk hP.out (by omega) (hh.out _ (by omega));have hu:w.heap.size+1≠d/\w.heap.size+1+1≠d/\w.heap.size+1≠w.heap.size+1+1:=by omega
        refine(decode1_fault w3 w.heap.size (w.heap.size+1) (w.heap.size+1+1) d a _ _ _ _ HF.out.2.2.dec (HF.out.1.blk hU.out (by omega) (hh.out _ (Nat.le_refl _))) z1' z2' hu).mono ?_;rintro e u' w'' ⟨rfl,rfl,rfl⟩;have hC:=faultW_cells (a:=a) z1' z2' hu;exact⟨_,results_decode _ _ (w.heap.size+1) (w.heap.size+1+1) _ _ rfl rfl hC.1 hC.2,dec_fault hN.out hf hS (Nat.le_trans HJ.out.bk.room.2.2.2 HF.out.1.size) HF.out.2.2 hi.out hM.out HF.out.2.1⟩
end Go.Proofs.YtkpppjhbmnfmkaaGreatDoor
end
