/-
  
  
  
  
  
  
-/
import Derived.Test.YtkpppjhbmnfmkaaGreatDoorJac
import Derived.Test.YtkpppjhbmnfmkaaGreatDoorJab
import Derived.Test.YtkpppjhbmnfmkaaGreatDoorFp
import Derived.Deep.RegionLaw
import Derived.Deep.RegionWith
import Derived.Deep.DrawnRows
import Derived.BigQuiet
import Derived.Recover
import Derived.Defers
import Derived.Deep.RegionHeld3
import Derived.BigRegion
set_option linter.unusedSimpArgs false
set_option linter.unusedVariables false
section
set_option maxHeartbeats 400000
namespace Go.Proofs.YtkpppjhbmnfmkaaGreatDoor
open Go.RowKit Go.Own Go.Own.Cx
attribute [local go_sem] Oper.semAt_some
structure BK (w:World) (B g d:Nat) (A:Option Addr) (n c:Nat) (l:List UInt8) (ov:Value) (out:List Hd.HdrV):Prop where
 blk:Blk w g 255 #[.pointer (some ⟨d,0,none⟩),.slice A n c,ov,.int .i64 (hszs out:Nat)]
 hg:B<=g
 le:n<=c
 few:n<=1000000
 rd_:Rd w B A n l
 dec:∃tv lim gone,Blk w d 137 #[tv,lim,gone]/\d<B/\∃p,tv= .pointer (some p)
 out_:Cm.Ew hdrC 63 3 w B ov out
 ne:∀j,ov.ownBlock=some j->j≠g
 max:∃m,w.cell? ⟨13,0,none⟩=some (.int .i64 m)
 maxB:13<B
section
variable {w w':World} {B g d n c:Nat} {A:Option Addr} {l:List UInt8} {ov:Value} {out:List Hd.HdrV}
end
theorem results_header (tmps:Array Value) (w:World) (g:Nat) (a b c:Value) (ht:tmps[4]?=some (.pointer (some ⟨g,0,none⟩))) (hb:Blk w g 63 #[a,b,c]):
 (results Tryz.f237 tmps).run Tryz.prog w= .ok (.agg #[a,b,c]) w:=by
 have c0:w.cell? ⟨g,0,none⟩=some a:=hb.cell 0;have c1:w.cell? ⟨g,1,none⟩=some b:=hb.cell 1;have c2:w.cell? ⟨g,2,none⟩=some c:=hb.cell 2;simp[results,Tryz.results237,go_sem,ht,c0,c1,c2]
theorem elH:Cm.ElP Tryz.prog hdrC 41 63 3 40:=by
 refine⟨Tryz.underlying41,?_,λ_=>rfl,?_,by omega,by omega⟩
 · obtain⟨i,hi,hz,h1,h2⟩:=info_parts hdrInfo
   exact⟨i,_,hi,hz,h1,h2,rfl⟩
 · intro x u hu
   simp only[hdrC,List.mem_cons,List.not_mem_nil,or_false]at hu;rcases hu with rfl|rfl|rfl<;>rfl
theorem hsize_any (hn hv:ByteArray) (ne:Bool) (w:World) (h1:hn.size<=1000000) (h2:hv.size<=1000000):Calls Tryz.prog 135 #[.agg #[.string hn,.string hv,.bool ne]] w λe w'=>e= .returned (.int .i64 (hn.size+hv.size+32:Nat))/\w'=w.alloc (.cells #[.string hn,.string hv,.bool ne] 63):=by
 have e1:wrap64 ((hn.size:Int)+hv.size)=(hn.size:Int)+hv.size:=by unfold wrap64;omega
 have e3:hv.size<=1000000:=h2;have e2:wrap64 ((hn.size:Int)+hv.size+32)=(hn.size:Int)+hv.size+32:=by unfold wrap64;omega
 go_enter Tryz.func135,Tryz.ntmps135;go_wp2;go_ret;exact⟨by simp[e1,e2],rfl⟩
end Go.Proofs.YtkpppjhbmnfmkaaGreatDoor
end

section
set_option maxHeartbeats 1000000
namespace Go.Proofs.YtkpppjhbmnfmkaaGreatDoor
open Go.RowKit Go.Own Go.Own.Cx
def kindC:Array Value:=#[.int .u8 128,.int .u8 128,.func (.func 235) #[] #[],.int .u8 192,.int .u8 64,.func (.func 239) #[] #[],.int .u8 224,.int .u8 32,.func (.func 241) #[] #[],.int .u8 240,.int .u8 16,.func (.func 243) #[] #[],.int .u8 240,.int .u8 0,.func (.func 244) #[] #[]]
theorem kinds_any (w:World):Calls Tryz.prog 218 #[] w λe w'=>e= .returned (.slice (some ⟨w.heap.size,0,none⟩) 5 5)/\w'=w.alloc (.cells kindC 260):=by
 go_enter Tryz.func218,Tryz.ntmps218;go_wp2;go_ret;exact⟨rfl,rfl⟩
theorem decode1_idle (a b c:Addr) (w:World):
 CallsD Tryz.prog 216 #[.pointer (some a),.pointer (some b),.pointer (some c)] .returning w λe u' w'=>e= .returned (.tuple #[])/\u'= .returning/\w'=w:=by
 refine callsD_of_wpS Tryz.func216 rfl λc₀ cs hu=>?_;apply wpS_seq;apply wpS_region;simp[wpOpsS,go_sem,recoverD,hu,Tryz.ntmps216,Exit.thenS];apply wpS_seq;apply wpS_region;simp[wpOpsS,go_sem,Exit.thenS];refine wpS_cond (t:=false) (by simp[Act.eval,Array.replicate]) ?_;simp only[Bool.false_eq_true,if_false];refine wpS_of_wp (wp_skip ?_);cases c₀;simp_all[bodyPostS,results,Tryz.results216]
end Go.Proofs.YtkpppjhbmnfmkaaGreatDoor
end

section
namespace Go.Proofs.YtkpppjhbmnfmkaaGreatDoor
open Go.RowKit Go.Own Go.Own.Cx
def lenK (w:World) (g:Nat):Nat:=match w.cell? ⟨g,1,none⟩with|some (.slice _ n _)=>n|_=>0
theorem lenK_of {w:World} {g n c:Nat} {A:Option Addr} (h:w.cell? ⟨g,1,none⟩=some (.slice A n c)):lenK w g=n:=by rw[lenK,h]
theorem results_decode (tmps:Array Value) (w:World) (g1 g2:Nat) (a b:Value) (h4:tmps[4]?=some (.pointer (some ⟨g1,0,none⟩))) (h5:tmps[5]?=some (.pointer (some ⟨g2,0,none⟩))) (c1:w.cell? ⟨g1,0,none⟩=some a) (c2:w.cell? ⟨g2,0,none⟩=some b):
 (results Tryz.f194 tmps).run Tryz.prog w= .ok (.tuple #[a,b]) w:=by
 simp[results,Tryz.results194,go_sem,h4,h5,c1,c2]
end Go.Proofs.YtkpppjhbmnfmkaaGreatDoor
end

section
set_option maxHeartbeats 1000000
set_option maxRecDepth 100000
namespace Go.Own.Cx
open Lib (hid)
open Go Go.RowKit Go.Own
structure Bar (X:Nat->Prop) (B:Nat) (w w':World):Prop where
 os:w'.os=w.os
 tape:w'.tape=w.tape
 output:w'.output=w.output
 size:w.heap.size<=w'.heap.size
 block:∀g,g<B->¬X g->w'.heap[g]?=w.heap[g]?
section
variable {X:Nat->Prop} {B B':Nat} {w w1 w2:World}
theorem Bar.refl (X:Nat->Prop) (B:Nat) (w:World):Bar X B w w:=⟨rfl,rfl,rfl,Nat.le_refl _,λ_ _ _=>rfl⟩
theorem Bar.trans (h:Bar X B w w1) (k:Bar X B w1 w2):Bar X B w w2:=⟨k.os.trans h.os,k.tape.trans h.tape,k.output.trans h.output,Nat.le_trans h.size k.size,λg hg hx=>(k.block g hg hx).trans (h.block g hg hx)⟩
theorem Bar.of (h:Below B w w1) (X:Nat->Prop):Bar X B w w1:=⟨h.os,h.tape,h.output,h.size,λg hg _=>h.block g hg⟩
theorem Bar.mono (h:Bar X B w w1) (hB:B'<=B):Bar X B' w w1:=⟨h.os,h.tape,h.output,h.size,λg hg=>h.block g (by omega)⟩
theorem Bar.setCell (h:Bar X B w w1) {p:Addr} (hp:B<=p.block\/X p.block) (v:Value):Bar X B w (w1.setCell p v):=
 ⟨h.os,h.tape,h.output,by simp[World.setCell];exact h.size,λg hg hx=>(Below.heap_setCell w1 p v g (λe=>by
   rcases hp with hp|hp
   · omega
   · exact hx (e▸hp))).trans (h.block g hg hx)⟩
theorem Bar.alloc (h:Bar X B w w1) (hB:B<=w1.heap.size) (o:Obj):Bar X B w (w1.alloc o):=h.trans (Bar.of ((Below.refl B w1).alloc hB o) X)
theorem Bar.drewN (h:Bar X B w w1) (n:Nat):Bar X B w (w1.drewN n):=h.trans (Bar.of (bdN (Below.refl B w1) n) X)
theorem Bar.drew (h:Bar X B w w1):Bar X B w w1.drew:=h.drewN 1
theorem Bar.grown (h:Bar X B w w1) {row:Option Nat} (hg:w1.grownBy w2 row) (hB:B<=w1.heap.size) (hr:∀g,row=some g->B<=g\/X g):Bar X B w w2:=
 ⟨hg.os.trans h.os,hg.tape.trans h.tape,hg.output.trans h.output,Nat.le_trans h.size hg.size,λg h0 hx=>(hg.block g (by omega) (λe=>by
   rcases hr g e.symm with h1|h1
   · omega
   · exact hx h1)).trans (h.block g h0 hx)⟩
theorem Bar.rd (h:Bar X B w w1) {n:Nat} {A:Option Addr} {l:List UInt8} (hr:Rd w B A n l) (hx:0<n->∀ad,A=some ad->¬X ad.block):Rd w1 B A n l:=
 ⟨hr.1,λhn=>by
   obtain⟨ad,e,hb,hc⟩:=hr.2 hn;exact⟨ad,e,hb,λj hj=>(World.cell?_of_block (a:=ad.add j) (by rw[add_block];exact h.block _ hb (hx hn ad e))).trans (hc j hj)⟩⟩
theorem Bar.blk (h:Bar X B w w1) {g:Nat} {t:TypeId} {cs:Array Value} (hb:Blk w g t cs) (hg:g<B) (hx:¬X g):Blk w1 g t cs:=(h.block g hg hx).trans hb
end
theorem hszs_hk (l:List Hd.HdrV):hszs l=Hk.hzs l:=rfl
def shrI (m:Int):List Hd.HdrV->List Hd.HdrV
 |[]=>[]
 |h::E=>if m<(hszs (h::E):Int)then shrI m E else h::E
theorem shrI_nat (m:Nat):∀E,shrI (m:Int) E=Hk.shrink m E
 |[]=>rfl
 |h::E=>by
  rw[shrI,Hk.shrink,shrI_nat m E,hszs_hk];by_cases hm:m<Hk.hzs (h::E)
  · rw[if_pos hm,if_pos (by omega)]
  · rw[if_neg hm,if_neg (by omega)]
theorem shrI_neg {m:Int} (hm:m<0):∀E,shrI m E=[]
 |[]=>rfl
 |h::E=>by rw[shrI,if_pos (by omega),shrI_neg hm E]
theorem hszs_cons' (h:Hd.HdrV) (E:List Hd.HdrV):hszs (h::E)=hsz h+hszs E:=by simp[hszs]
theorem hsz_32 (h:Hd.HdrV):32<=hsz h:=by unfold hsz;omega
theorem hszs_32:∀E:List Hd.HdrV,E.length*32<=hszs E
 |[]=>by simp[hszs]
 |h::E=>by rw[hszs_cons',List.length_cons];have:=hsz_32 h;have:=hszs_32 E;omega
end Go.Own.Cx
namespace Go.Proofs.YtkpppjhbmnfmkaaGreatDoor
open Lib (hid)
open Go.RowKit Go.Own Go.Own.Cx
attribute [local go_sem] Oper.semAt_some
structure RingC (cs:Array Value) (old:Nat) (E:List Hd.HdrV):Prop where
 size:cs.size=384
 lt:old<128
 le:E.length<=128
 at_:∀k h,E[k]?=some h->cs[(old+k) % 128*3]?=some (.string h.name)/\cs[(old+k) % 128*3+1]?=some (.string h.value)/\cs[(old+k) % 128*3+2]?=some (.bool h.never)
 any:∀j,j<128->∃h:Hd.HdrV,cs[j*3]?=some (.string h.name)/\cs[j*3+1]?=some (.string h.value)/\cs[j*3+2]?=some (.bool h.never)
def TabR (w:World) (g r:Nat) (E:List Hd.HdrV) (mo:Nat):Prop:=
 ∃(old:Nat) (cs:Array Value),Blk w g 179 #[.slice (some ⟨r,0,none⟩) 128 128,.int .i64 (old:Nat),.int .i64 (E.length:Nat),.int .i64 (hszs E:Nat),.int .i64 (mo:Nat)]/\Blk w r 63 cs/\RingC cs old E/\hszs E<=4096
theorem blk_ne {w:World} {g r:Nat} {t t':TypeId} {cs cs':Array Value} (h:Blk w g t cs) (k:Blk w r t' cs') (ht:t≠t'):g≠r:=λe=>by
 subst e;have:=h.symm.trans k;injection this with this
 injection this with _ this
 exact ht this
section
variable {w w':World} {g r mo:Nat} {E:List Hd.HdrV}
theorem TabR.ne (h:TabR w g r E mo):g≠r:=by
 obtain⟨old,cs,h1,h2,_⟩:=h;exact blk_ne h1 h2 (by decide)
theorem TabR.lt (h:TabR w g r E mo):g<w.heap.size/\r<w.heap.size:=by
 obtain⟨old,cs,h1,h2,_⟩:=h;exact⟨h1.lt,h2.lt⟩
theorem TabR.keep (h:TabR w g r E mo) (h1:w'.heap[g]?=w.heap[g]?) (h2:w'.heap[r]?=w.heap[r]?):TabR w' g r E mo:=by
 obtain⟨old,cs,k1,k2,k⟩:=h;exact⟨old,cs,h1.trans k1,h2.trans k2,k⟩
theorem TabR.below {B:Nat} (h:TabR w g r E mo) (hb:Below B w w') (hg:g<B) (hr:r<B):TabR w' g r E mo:=h.keep (hb.block g hg) (hb.block r hr)
theorem TabR.drewN (h:TabR w g r E mo) (n:Nat):TabR (w.drewN n) g r E mo:=h
theorem TabS.ring {own:Nat->Prop} {m:Nat} (h:TabS w own g E m):∃r,TabR w g r E m/\own g/\own r/\hszs E<=m/\m<=4096:=by
 obtain⟨r,old,cs,h1,h2,h3,h4,h5,h6,h7,h8,h9,h0⟩:=h;exact⟨r,⟨old,cs,h1,h2,⟨h5,h6,by have:=hszs_32 E;omega,h9,h0⟩,by omega⟩,h3,h4,h7,h8⟩
theorem TabR.tabS {own:Nat->Prop} (h:TabR w g r E mo) (h3:own g) (h4:own r) (h5:hszs E<=mo) (h6:mo<=4096):TabS w own g E mo:=by
 obtain⟨old,cs,h1,h2,h,_⟩:=h;exact⟨r,old,cs,h1,h2,h3,h4,h.size,h.lt,h5,h6,h.at_,h.any⟩
end
theorem tat_any (w:World) (g r old len i:Nat) (sv mv:Value) (hb:Blk w g 179 #[.slice (some ⟨r,0,none⟩) 128 128,.int .i64 (old:Nat),.int .i64 (len:Nat),sv,mv]) (ho:old<128) (hl:len<=128) (hi:i<len):
 Calls Tryz.prog 172 #[.pointer (some ⟨g,0,none⟩),.int .i64 (i:Nat)] w λe w'=>e= .returned (.int .i64 ((old+len-1-i) % 128:Nat))/\∃n,w'=w.drewN n:=by
 have c0:w.cell? ⟨g,0,none⟩=some (.slice (some ⟨r,0,none⟩) 128 128):=hb.cell 0;have c1:w.cell? ⟨g,1,none⟩=some (.int .i64 (old:Nat)):=hb.cell 1;have c2:w.cell? ⟨g,2,none⟩=some (.int .i64 (len:Nat)):=hb.cell 2;have h0:=hb.lt;have e1:wrap64 ((old:Int)+len)=(old:Int)+len:=by unfold wrap64;omega
 have e2:wrap64 ((old:Int)+len-1)=(old:Int)+len-1:=by unfold wrap64;omega
 have e3:wrap64 ((old:Int)+len-1-i)=((old+len-1-i:Nat):Int):=by unfold wrap64;omega
 have e4:((old+len-1-i:Nat):Int).tmod 128=((old+len-1-i) % 128:Nat):=rfl;have HE:=hid (And.intro (And.intro e1 e2) (And.intro e3 e4));clear hb ho hl hi e1 e2 e3 e4;go_enter Tryz.func172,Tryz.ntmps172;go_wp2_with fail;go_quiet (fail);go_wp2;go_ret;exact⟨by simp[HE.out.1.1,HE.out.1.2,HE.out.2.1,HE.out.2.2],_,rfl⟩
end Go.Proofs.YtkpppjhbmnfmkaaGreatDoor
end

section
set_option maxHeartbeats 8000000
set_option maxRecDepth 100000
namespace Go.Proofs.YtkpppjhbmnfmkaaGreatDoor
open Lib (hid)
open Go.RowKit Go.Own Go.Own.Cx
attribute [local go_sem] Oper.semAt_some
theorem hsize_le {h:Hd.HdrV} {E:List Hd.HdrV} {m:Nat} (hh:h∈E) (hm:hszs E<=m):h.name.size+h.value.size+32<=m:=by
 induction E with
 |nil=>cases hh
 |cons x E ih=>
  rw[hszs_cons']at hm;rcases List.mem_cons.1 hh with rfl|hh
  · unfold hsz at hm;omega
  · exact ih hh (by omega)
theorem RingC.drop {cs:Array Value} {old:Nat} {h:Hd.HdrV} {E:List Hd.HdrV} (hr:RingC cs old (h::E)):RingC (((cs.setIfInBounds (old*3) (.string ⟨#[]⟩)).setIfInBounds (old*3+1) (.string ⟨#[]⟩)).setIfInBounds (old*3+2) (.bool false)) ((old+1) % 128) E:=by
 have h4:=hr.lt;have h3:=hr.le;rw[List.length_cons]at h3;have key:∀j,j<128->j≠old->∀t,t<3->(((cs.setIfInBounds (old*3) (.string ⟨#[]⟩)).setIfInBounds (old*3+1) (.string ⟨#[]⟩)).setIfInBounds (old*3+2) (.bool false))[j*3+t]?=cs[j*3+t]?:=λj hj hne t ht=>by
  rw[Array.getElem?_setIfInBounds_ne (by omega),Array.getElem?_setIfInBounds_ne (by omega),Array.getElem?_setIfInBounds_ne (by omega)]
 refine⟨by simp[hr.size],Nat.mod_lt _ (by omega),by omega,λk x hk=>?_,λj hj=>?_⟩
 · have h5:=(List.getElem?_eq_some_iff.1 hk).1
   have e:((old+1) % 128+k) % 128=(old+(k+1)) % 128:=by omega
   have hne:(old+(k+1)) % 128≠old:=by omega
   have h1:=hr.at_ (k+1) x (by rw[List.getElem?_cons_succ];exact hk);rw[e];have k0:=key _ (Nat.mod_lt (old+(k+1)) (by omega)) hne 0 (by omega);have k1:=key _ (Nat.mod_lt (old+(k+1)) (by omega)) hne 1 (by omega);have k2:=key _ (Nat.mod_lt (old+(k+1)) (by omega)) hne 2 (by omega);rw[Nat.add_zero]at k0;exact⟨k0.trans h1.1,k1.trans h1.2.1,k2.trans h1.2.2⟩
 · by_cases hne:j=old
   · subst hne
     have hs:=hr.size;refine⟨⟨⟨#[]⟩,⟨#[]⟩,false⟩,?_,?_,?_⟩
     · rw[Array.getElem?_setIfInBounds_ne (by omega),Array.getElem?_setIfInBounds_ne (by omega),Array.getElem?_setIfInBounds_self_of_lt (by omega)]
     · rw[Array.getElem?_setIfInBounds_ne (by omega),Array.getElem?_setIfInBounds_self_of_lt (by simp;omega)]
     · rw[Array.getElem?_setIfInBounds_self_of_lt (by simp;omega)]
   · obtain⟨x,h0,h1,h2⟩:=hr.any j hj
     have k0:=key j hj hne 0 (by omega);rw[Nat.add_zero]at k0;exact⟨x,k0.trans h0,(key j hj hne 1 (by omega)).trans h1,(key j hj hne 2 (by omega)).trans h2⟩
def lenT (w:World) (g:Nat):Nat:=match w.cell? ⟨g,2,none⟩with|some (.int _ n)=>n.toNat|_=>0
theorem lenT_of {w:World} {g n:Nat} (h:w.cell? ⟨g,2,none⟩=some (.int .i64 (n:Nat))):lenT w g=n:=by rw[lenT,h];rfl
def ShR (w:World) (g r:Nat) (m:Int) (E0:List Hd.HdrV) (mo:Nat) (wr:World):Prop:=∃E,TabR wr g r E mo/\shrI m E=shrI m E0/\Bar (λj=>j=g\/j=r) w.heap.size w wr
theorem shrink_any (w:World) (g r:Nat) (E:List Hd.HdrV) (mo:Nat) (m:Int) (h:TabR w g r E mo) (hm:(Lit.int .i64 m).wf=true):
 Calls Tryz.prog 171 #[.pointer (some ⟨g,0,none⟩),.int .i64 m] w λe w'=>e= .returned (.tuple #[])/\TabR w' g r (shrI m E) mo/\Bar (λj=>j=g\/j=r) w.heap.size w w':=by
 have HR:=hid (show ShR w g r m E mo w from⟨E,h,rfl,Bar.refl _ _ _⟩);clear h;go_enter Tryz.func171,Tryz.ntmps171;go_wp2_with fail;go_loopw [4] (λ_ wr=>Hid (ShR w g r m E mo wr)) (λ_ wr=>lenT wr g)
 case atStart=>exact HR
 case round=>
  obtain⟨E1,ht,hs,hb⟩:=hrel.out;have HT:=hid ht;have HS:=hid hs;have HB:=hid hb;obtain⟨old,cs,h3,h4,h2,hsz⟩:=ht;have g0:wr.cell? ⟨g,0,none⟩=some (.slice (some ⟨r,0,none⟩) 128 128):=h3.cell 0;have g1:wr.cell? ⟨g,1,none⟩=some (.int .i64 (old:Nat)):=h3.cell 1;have g2:wr.cell? ⟨g,2,none⟩=some (.int .i64 (E1.length:Nat)):=h3.cell 2;have g3:wr.cell? ⟨g,3,none⟩=some (.int .i64 (hszs E1:Nat)):=h3.cell 3;have h7:=h3.lt;have hD:lenT wr g=E1.length:=lenT_of g2;have hM:=hid hD;clear hrel hs hb hD;by_cases h0:E1=[]\/¬m<(hszs E1:Int)
  · have hE:shrI m E=E1:=by
     rw[<-HS.out];rcases h0 with rfl|h1
     · rfl
     · cases E1 with
       |nil=>rfl
       |cons x E1=>rw[shrI,if_neg h1]
    have HE:=hid hE;clear hE;rcases h0 with rfl|h1
    · go_wp2_with fail
      go_end0;rw[HE.out];exact⟨rfl,HT.out,HB.out⟩
    · have H3:decide (m<((hszs E1:Nat):Int))=false:=by simpa using h1
      go_wp2_with fail;all_goals
       go_end0;rw[HE.out];exact⟨rfl,HT.out,HB.out⟩
  · cases E1 with
    |nil=>exact absurd (.inl rfl) h0
    |cons x E1=>
     have hl:m<((hszs (x::E1):Nat):Int):=Classical.not_not.1 λh=>h0 (.inr h);have H1:decide (m<((hszs (x::E1):Nat):Int))=true:=by simpa using hl
     have H4:(0:Int)<(((x::E1).length:Nat):Int):=by simp
     have h5:=h2.at_ 0 x rfl;have hF:=h2.lt;rw[Nat.add_zero,Nat.mod_eq_of_lt hF]at h5;have hN:=hsize_le (List.mem_cons_self (a:=x) (l:=E1)) hsz;have r0:wr.cell? ⟨r,old*3,none⟩=some (.string x.name):=(h4.cell _).trans h5.1;have r1:wr.cell? ⟨r,old*3+1,none⟩=some (.string x.value):=(h4.cell _).trans h5.2.1;have r2:wr.cell? ⟨r,old*3+2,none⟩=some (.bool x.never):=(h4.cell _).trans h5.2.2;have h9:=hid h4;have hG:=hid h3;have hj:=hid h2;have hO:=hid (λW (hb:Below wr.heap.size wr W)=>(show(W.cell? ⟨g,3,none⟩=some (.int .i64 (hszs (x::E1):Nat))/\W.cell? ⟨g,0,none⟩=some (.slice (some ⟨r,0,none⟩) 128 128)/\W.cell? ⟨g,1,none⟩=some (.int .i64 (old:Nat)))/\W.cell? ⟨r,old*3,none⟩=some (.string x.name)/\W.cell? ⟨r,old*3+1,none⟩=some (.string x.value)/\W.cell? ⟨r,old*3+2,none⟩=some (.bool x.never)from
      ⟨⟨(h3.below hb h3.lt).cell 3,(h3.below hb h3.lt).cell 0,(h3.below hb h3.lt).cell 1⟩,((h4.below hb h4.lt).cell _).trans h5.1,((h4.below hb h4.lt).cell _).trans h5.2.1,((h4.below hb h4.lt).cell _).trans h5.2.2⟩))
     have hn:=hid (hO.out wr (Below.refl _ _));have he:IntKind.i64.wrap (((hszs (x::E1):Nat):Int)-((x.name.size:Int)+(x.value.size:Int)+32))=((hszs E1:Nat):Int):=by
      rw[IntKind.wrap_i64];have:hszs (x::E1)=(x.name.size+x.value.size+32)+hszs E1:=hszs_cons' x E1;rw[this];omega
     have H2:(old:Int)<128:=by omega
     have hH:=hid (show x.name.size<=1000000/\x.value.size<=1000000 from⟨by omega,by omega⟩);have hP:=hid (show shrI m (x::E1)=shrI m E1 from by rw[shrI,if_pos hl]);have hI:=hid (show hszs E1<=4096 by have:=hszs_cons' x E1;omega);clear h2 h3 h4 h5 h0 hl hsz hN hF;generalize hszs (x::E1)=s0 at*
     obtain⟨s1,ho⟩:∃s1,hszs E1=s1:=⟨_,rfl⟩;rw[ho]at he hI;have hJ:=hid ho;clear ho;go_upto_region 1 with fail;have f3:=hG.out.frozen 3;have hq:=h9.out.lt;have hC:=hid (λW=>hsize_any x.name x.value x.never W hH.out.1 hH.out.2);go_cut [17] (λv wx=>Hid (wx=((wr.setCell ⟨g,3,none⟩ (.int .i64 (s1:Nat))).alloc (.cells #[.string x.name,.string x.value,.bool x.never] 63)).drew))
     case first=>
      go_region_with (first
       |(go_at_call 135
         with_reducible refine Calls.mono (hC.out _) ?_
         rintro e w1 ⟨rfl,hw⟩;subst w1)
       |fail)
      all_goals
       go_wp2_with fail;go_meet;exact hid (by simp only[he])
     case rest=>
      have hW:=hcut.out;have hf:Blk wc g 179 #[.slice (some ⟨r,0,none⟩) 128 128,.int .i64 (old:Nat),.int .i64 ((x::E1).length:Nat),.int .i64 (s1:Nat),.int .i64 (mo:Nat)]:=by
       rw[hW];have h1:=(hG.out.put 3 (.int .i64 (s1:Nat))).alloc (.cells #[.string x.name,.string x.value,.bool x.never] 63);simp only[List.setIfInBounds_toArray,List.set_cons_zero,List.set_cons_succ]at h1;exact h1
      have hh:Blk wc r 63 cs:=by
       rw[hW];exact(h9.out.far (p:=⟨g,3,none⟩) (λe=>HT.out.ne e.symm) _).alloc _
      have hK:Bar (λj=>j=g\/j=r) w.heap.size w wc:=by
       rw[hW];exact((HB.out.setCell (p:=⟨g,3,none⟩) (.inr (.inl rfl)) _).alloc (by have:=HB.out.size;simp[World.setCell];omega) _).drew
      have hQ:=hid hK;have hk:=hid hf;have h6:=hid hh;clear hW hcut hK g0 g1 g2 g3 r0 r1 r2 f3 hq h7 hf hh;have g0:wc.cell? ⟨g,0,none⟩=some (.slice (some ⟨r,0,none⟩) 128 128):=hk.out.cell 0;have g1:wc.cell? ⟨g,1,none⟩=some (.int .i64 (old:Nat)):=hk.out.cell 1;have r0:wc.cell? ⟨r,old*3,none⟩=some (.string x.name):=(h6.out.cell _).trans ((h9.out.cell _).symm.trans hn.out.2.1);have r1:wc.cell? ⟨r,old*3+1,none⟩=some (.string x.value):=(h6.out.cell _).trans ((h9.out.cell _).symm.trans hn.out.2.2.1);have r2:wc.cell? ⟨r,old*3+2,none⟩=some (.bool x.never):=(h6.out.cell _).trans ((h9.out.cell _).symm.trans hn.out.2.2.2);have rf0:=h6.out.frozen (old*3);have rf1:=h6.out.frozen (old*3+1);have rf2:=h6.out.frozen (old*3+2);have h7:=hk.out.lt;have hq:=h6.out.lt;go_upto_region 2 with fail;go_region;have hi:=((h6.out.put (old*3) (.string ⟨#[]⟩)).put (old*3+1) (.string ⟨#[]⟩)).put (old*3+2) (.bool false);have hR:=hid (show Blk ((((wc.setCell ⟨r,old*3,none⟩ (.string ⟨#[]⟩)).setCell ⟨r,old*3+1,none⟩ (.string ⟨#[]⟩)).setCell ⟨r,old*3+2,none⟩ (.bool false)).drew) r 63 _ from hi);have hc:=hid (show Blk ((((wc.setCell ⟨r,old*3,none⟩ (.string ⟨#[]⟩)).setCell ⟨r,old*3+1,none⟩ (.string ⟨#[]⟩)).setCell ⟨r,old*3+2,none⟩ (.bool false)).drew) g 179 _ from((hk.out.far (p:=⟨r,old*3,none⟩) HT.out.ne _).far (p:=⟨r,old*3+1,none⟩) HT.out.ne _).far (p:=⟨r,old*3+2,none⟩) HT.out.ne _);have hS:=hid (((hQ.out.setCell (p:=⟨r,old*3,none⟩) (.inr (.inr rfl)) (.string ⟨#[]⟩)).setCell (p:=⟨r,old*3+1,none⟩) (.inr (.inr rfl)) (.string ⟨#[]⟩)).setCell (p:=⟨r,old*3+2,none⟩) (.inr (.inr rfl)) (.bool false)).drew;clear hi g0 g1 r0 r1 r2 rf0 rf1 rf2 h7 hq;generalize ((((wc.setCell ⟨r,old*3,none⟩ (.string ⟨#[]⟩)).setCell ⟨r,old*3+1,none⟩ (.string ⟨#[]⟩)).setCell ⟨r,old*3+2,none⟩ (.bool false)).drew)=W6 at*
      have g0:W6.cell? ⟨g,0,none⟩=some (.slice (some ⟨r,0,none⟩) 128 128):=hc.out.cell 0;have g1:W6.cell? ⟨g,1,none⟩=some (.int .i64 (old:Nat)):=hc.out.cell 1;have gf1:=hc.out.frozen 1;have h7:=hc.out.lt;have hT:IntKind.i64.wrap ((old:Int)+1)=((old+1:Nat):Int):=by have:=hj.out.lt;rw[IntKind.wrap_i64];omega
      have hU:wrap64 ((old:Int)+1)=((old+1:Nat):Int):=by have:=hj.out.lt;unfold wrap64;omega
      have hV:((old:Int)+1).tmod 128=(((old+1) % 128:Nat):Int):=rfl;go_wp2_with fail;go_region;obtain⟨o2,hu⟩:∃o2,(old+1) % 128=o2:=⟨_,rfl⟩;have hX:=hid hu;have e7:((old:Int)+1) % 128=(o2:Int):=by rw[<-hu];rfl
      rw[e7];have h8:=hid (show Blk ((W6.setCell ⟨g,1,none⟩ (.int .i64 (o2:Nat))).drew) g 179 _ from hc.out.put 1 (.int .i64 (o2:Nat)));have hY:=hid (show Blk ((W6.setCell ⟨g,1,none⟩ (.int .i64 (o2:Nat))).drew) r 63 _ from hR.out.far (p:=⟨g,1,none⟩) (λe=>HT.out.ne e.symm) _);have hZ:=hid (hS.out.setCell (p:=⟨g,1,none⟩) (.inr (.inl rfl)) (.int .i64 (o2:Nat))).drew;simp only[List.setIfInBounds_toArray,List.set_cons_zero,List.set_cons_succ]at h8;clear g0 g1 gf1 h7 hT hU hV e7 hu;generalize (W6.setCell ⟨g,1,none⟩ (.int .i64 (o2:Nat))).drew=W7 at*
      obtain⟨ln,hd⟩:∃ln,E1.length=ln:=⟨_,rfl⟩;have g2:W7.cell? ⟨g,2,none⟩=some (.int .i64 ((x::E1).length:Nat)):=h8.out.cell 2;rw[show(x::E1).length=ln+1 by rw[<-hd];rfl]at g2;have gf2:=h8.out.frozen 2;have h7:=h8.out.lt;have hA:=hj.out.le;have H0:=w64_pred ln (by rw[<-hd];simp at hA;omega);have H5:=w64_self ln (by rw[<-hd];simp at hA;omega);have H7:wrap64 (((ln+1:Nat):Int)-1)=(ln:Int):=H0;have hL:=hid hd;clear hA hd;go_wp2_with fail;go_roundw
      case rel=>
       refine hid ⟨E1,⟨o2,_,?_,hY.out.far (p:=⟨g,2,none⟩) (λe=>HT.out.ne e.symm) _,by rw[<-hX.out];exact hj.out.drop,?_⟩,?_,hZ.out.setCell (p:=⟨g,2,none⟩) (.inr (.inl rfl)) _⟩
       · have h1:=h8.out.put 2 (.int .i64 (ln:Nat))
         simp only[List.setIfInBounds_toArray,List.set_cons_zero,List.set_cons_succ]at h1;rw[hL.out,hJ.out];exact h1
       · rw[hJ.out];exact hI.out
       · exact hP.out.symm.trans HS.out
      case measure=>
       rw[hM.out];have h1:=lenT_of ((h8.out.put 2 (.int .i64 (ln:Nat))).cell 2);rw[h1,List.length_cons,hL.out];omega
end Go.Proofs.YtkpppjhbmnfmkaaGreatDoor
end

section
set_option maxHeartbeats 8000000
set_option maxRecDepth 100000
namespace Go.Proofs.YtkpppjhbmnfmkaaGreatDoor
open Lib (hid)
open Go.RowKit Go.Own Go.Own.Cx
attribute [local go_sem] Oper.semAt_some
theorem RingC.snoc {cs:Array Value} {old:Nat} {E:List Hd.HdrV} (hr:RingC cs old E) (h:Hd.HdrV) (hl:E.length<128) (p:Nat) (hp:p=(old+E.length) % 128):RingC (((cs.setIfInBounds (p*3) (.string h.name)).setIfInBounds (p*3+1) (.string h.value)).setIfInBounds (p*3+2) (.bool h.never)) old (E++[h]):=by
 have h5:=hr.lt;have hs:=hr.size;have h4:p<128:=by rw[hp];exact Nat.mod_lt _ (by omega)
 have key:∀j,j<128->j≠p->∀t,t<3->(((cs.setIfInBounds (p*3) (.string h.name)).setIfInBounds (p*3+1) (.string h.value)).setIfInBounds (p*3+2) (.bool h.never))[j*3+t]?=cs[j*3+t]?:=λj hj hne t ht=>by
  rw[Array.getElem?_setIfInBounds_ne (by omega),Array.getElem?_setIfInBounds_ne (by omega),Array.getElem?_setIfInBounds_ne (by omega)]
 have self:(((cs.setIfInBounds (p*3) (.string h.name)).setIfInBounds (p*3+1) (.string h.value)).setIfInBounds (p*3+2) (.bool h.never))[p*3]?=some (.string h.name)/\(((cs.setIfInBounds (p*3) (.string h.name)).setIfInBounds (p*3+1) (.string h.value)).setIfInBounds (p*3+2) (.bool h.never))[p*3+1]?=some (.string h.value)/\(((cs.setIfInBounds (p*3) (.string h.name)).setIfInBounds (p*3+1) (.string h.value)).setIfInBounds (p*3+2) (.bool h.never))[p*3+2]?=some (.bool h.never):=by
  refine⟨?_,?_,?_⟩
  · rw[Array.getElem?_setIfInBounds_ne (by omega),Array.getElem?_setIfInBounds_ne (by omega),Array.getElem?_setIfInBounds_self_of_lt (by omega)]
  · rw[Array.getElem?_setIfInBounds_ne (by omega),Array.getElem?_setIfInBounds_self_of_lt (by simp;omega)]
  · rw[Array.getElem?_setIfInBounds_self_of_lt (by simp;omega)]
 refine⟨by simp[hs],h5,by simp;omega,λk x hk=>?_,λj hj=>?_⟩
 · rcases Nat.lt_or_ge k E.length with h3|h3
   · have h1:=hr.at_ k x (by rw[List.getElem?_append_left h3]at hk;exact hk)
     have hne:(old+k) % 128≠p:=by rw[hp];omega
     have k0:=key _ (Nat.mod_lt (old+k) (by omega)) hne 0 (by omega);have k1:=key _ (Nat.mod_lt (old+k) (by omega)) hne 1 (by omega);have k2:=key _ (Nat.mod_lt (old+k) (by omega)) hne 2 (by omega);rw[Nat.add_zero]at k0;exact⟨k0.trans h1.1,k1.trans h1.2.1,k2.trans h1.2.2⟩
   · rw[List.getElem?_append_right h3]at hk
     have h6:k-E.length=0:=by
      have:=(List.getElem?_eq_some_iff.1 hk).1;simp at this;omega
     rw[h6]at hk;have h7:k=E.length:=by omega
     injection hk with hk
     subst hk;rw[h7,<-hp];exact self
 · by_cases hne:j=p
   · subst hne
     exact⟨h,self⟩
   · obtain⟨x,h0,h1,h2⟩:=hr.any j hj
     have k0:=key j hj hne 0 (by omega);rw[Nat.add_zero]at k0;exact⟨x,k0.trans h0,(key j hj hne 1 (by omega)).trans h1,(key j hj hne 2 (by omega)).trans h2⟩
theorem tadd_any (w:World) (g r:Nat) (E:List Hd.HdrV) (mo:Nat) (h:Hd.HdrV) (ht:TabR w g r E mo) (hZ:mo<=4096) (h1:h.name.size<=1000000) (h2:h.value.size<=1000000):
 Calls Tryz.prog 140 #[.pointer (some ⟨g,0,none⟩),.agg (hdrC h)] w λe w'=>e= .returned (.tuple #[])/\TabR w' g r (Hk.TM.add ⟨E,mo⟩ h).E mo/\Bar (λj=>j=g\/j=r) w.heap.size w w':=by
 obtain⟨hn,hv,hne⟩:=h;simp only[hdrC]at h1 h2 ⊢;have HX:=hid (Blk.new w 63 #[.string hn,.string hv,.bool hne]);have hi:=hid ((Below.refl w.heap.size w).alloc (Nat.le_refl _) (.cells #[.string hn,.string hv,.bool hne] 63));have HL:=hid ht.lt;have hu:=hid (ht.below hi.out ht.lt.1 ht.lt.2);have hT:=hid (Bar.of hi.out (λj=>j=g\/j=r));have Hu:=hid (λW=>hsize_any hn hv hne W h1 h2);have h5:=hid (And.intro hZ (And.intro h1 h2));clear ht hZ;go_enter Tryz.func140,Tryz.ntmps140;go_upto_region 1 with fail;generalize w.alloc (.cells #[.string hn,.string hv,.bool hne] 63)=W0 at*
 have HQ:=hid (λW (hb:Blk W w.heap.size 63 #[.string hn,.string hv,.bool hne]) (E1:List Hd.HdrV) (ht:TabR W g r E1 mo)=>(show W.cell? ⟨g,4,none⟩=some (.int .i64 (mo:Nat))/\W.cell? ⟨w.heap.size,0,none⟩=some (.string hn)/\W.cell? ⟨w.heap.size,1,none⟩=some (.string hv)/\W.cell? ⟨w.heap.size,2,none⟩=some (.bool hne)from by
  obtain⟨old,cs,hd,_⟩:=ht;exact⟨hd.cell 4,hb.cell 0,hb.cell 1,hb.cell 2⟩))
 have Hv:=hid (HQ.out W0 HX.out E hu.out);have hU:=hid (HQ.out W0.drew HX.out E (hu.out.drewN 1));obtain⟨s,hs⟩:∃s,hn.size+hv.size+32=s:=⟨_,rfl⟩;have hj:(hn.size:Int)+(hv.size:Int)+32=(s:Int):=by omega
 have hl:=hid (λW (Hx:Blk W w.heap.size 63 #[.string hn,.string hv,.bool hne]) (E1:List Hd.HdrV) (ht:TabR W g r E1 mo)=>(show Calls Tryz.prog 135 #[.agg #[.string hn,.string hv,.bool hne]] W λe w'=>e= .returned (.int .i64 (s:Nat))/\Blk w' w.heap.size 63 #[.string hn,.string hv,.bool hne]/\TabR w' g r E1 mo/\Below W.heap.size W w' from by
  refine(Hu.out W).mono ?_;rintro e w' ⟨rfl,rfl⟩;have hb:=(Below.refl W.heap.size W).alloc (Nat.le_refl _) (.cells #[.string hn,.string hv,.bool hne] 63);exact⟨by rw[hs],Hx.alloc _,ht.below hb ht.lt.1 ht.lt.2,hb⟩))
 have H0:(Lit.int .i64 ((mo:Int)-(s:Int))).wf=true:=by have:=h5.out;simp[Lit.wf,IntKind.min,IntKind.max,IntKind.bits,IntKind.signed];omega
 have g1:wrap64 ((mo:Int)-(s:Int))=(mo:Int)-(s:Int):=by have:=h5.out;unfold wrap64;omega
 have HZ:IntKind.i64.wrap ((mo:Int)-(s:Int))=(mo:Int)-(s:Int):=by have:=h5.out;rw[IntKind.wrap_i64];omega
 have Hy:=hid (λW (ht:TabR W g r E mo)=>shrink_any W g r E mo ((mo:Int)-(s:Int)) ht H0);have hk:=hid hs;clear H0 hs hj h1 h2;go_region_held3 (λW'=>W'.cell? ⟨g,4,none⟩=some (.int .i64 (mo:Nat))/\W'.cell? ⟨w.heap.size,0,none⟩=some (.string hn)/\W'.cell? ⟨w.heap.size,1,none⟩=some (.string hv)/\W'.cell? ⟨w.heap.size,2,none⟩=some (.bool hne)) (first|with_reducible exact Hv.out|with_reducible exact hU.out|with_reducible exact HB.out|with_reducible exact hV.out|with_reducible exact H1.out|with_reducible exact ho.out) (first
  |(go_at_call 135
    with_reducible refine Calls.mono (hl.out _ ?_ E ?_) ?_
    · exact HX.out
    · first|exact hu.out|exact hu.out.drewN 1
    rintro e w1 ⟨rfl,hA,hC,H2⟩;have H3:=hid hA;have H4:=hid hC;have hN:=hid (show Below W0.heap.size W0 w1 from(bdN (Below.refl _ _) 1 |>.trans H2));have HB:=hid (HQ.out w1 hA E hC);have hV:=hid (HQ.out w1.drew hA E (hC.drewN 1));clear hA hC H2)
  |(go_at_call 171
    with_reducible refine Calls.mono (Hy.out _ ?_) ?_
    · first|exact H4.out|exact H4.out.drewN 1
    rintro e w2 ⟨rfl,hD,hO⟩;have H5:=hid hD;have H7:=hid (show Bar (λj=>j=g\/j=r) w1.heap.size w1 w2 from hO);have hE:=hO.blk (H3.out) H3.out.lt (by have:=HL.out;omega);have HC:=hid hE;have H1:=hid (HQ.out w2 hE _ hD);have ho:=hid (HQ.out w2.drew hE _ (hD.drewN 1));clear hD hO hE)
  |fail)
 have hW:=hid (hl.out);go_wp2_with fail;go_region_held3 (λW'=>W'.cell? ⟨g,4,none⟩=some (.int .i64 (mo:Nat))/\W'.cell? ⟨w.heap.size,0,none⟩=some (.string hn)/\W'.cell? ⟨w.heap.size,1,none⟩=some (.string hv)/\W'.cell? ⟨w.heap.size,2,none⟩=some (.bool hne)) (first|with_reducible exact H1.out|with_reducible exact ho.out|with_reducible exact HD.out|with_reducible exact hX.out) (first
  |(go_at_call 135
    with_reducible refine Calls.mono (hW.out _ ?_ (shrI ((mo:Int)-(s:Int)) E) ?_) ?_
    · exact HC.out
    · first|exact H5.out|exact H5.out.drewN 1
    rintro e w3 ⟨rfl,hF,hf,H8⟩;have hG:=hid hF;have hP:=hid hf;have HF:=hid (show Below w2.heap.size w2 w3 from(bdN (Below.refl _ _) 1 |>.trans H8));have HD:=hid (HQ.out w3 hF _ hf);have hX:=hid (HQ.out w3.drew hF _ (hf.drewN 1));clear hF hf H8)
  |fail)
 have H9:=hid (show Bar (λj=>j=g\/j=r) w.heap.size w w3 from((hT.out.trans (Bar.of (hN.out.mono hi.out.size) _)).trans (H7.out.mono (Nat.le_trans hi.out.size hN.out.size))).trans (Bar.of (HF.out.mono (Nat.le_trans (Nat.le_trans hi.out.size hN.out.size) H7.out.size)) _));by_cases h4:mo<s
 · have Ha:(mo:Int)<(s:Int):=Int.ofNat_lt.2 h4
   have he:shrI ((mo:Int)-(s:Int)) E=[]:=shrI_neg (by omega) E;have HE:=hid he;have hh:=hid (show(Hk.TM.add ⟨E,mo⟩ ⟨hn,hv,hne⟩).E=[]by
    unfold Hk.TM.add;rw[if_pos (show mo<Hk.hz ⟨hn,hv,hne⟩by show mo<hn.size+hv.size+32;rw[hk.out];exact h4)])
   clear he;go_wp2_with fail;refine bodyPost_ret (results_none rfl _ _ _) rfl ?_;rw[hh.out];have h1:=hP.out;rw[HE.out]at h1;exact⟨rfl,h1,H9.out⟩
 · have Ha:¬(mo:Int)<(s:Int):=λh=>h4 (Int.ofNat_lt.1 h)
   obtain⟨m,hm⟩:∃m,mo-s=m:=⟨_,rfl⟩;have Hb:(mo:Int)-(s:Int)=(m:Int):=by omega
   obtain⟨E2,hH⟩:∃E2,Hk.shrink m E=E2:=⟨_,rfl⟩;have he:shrI ((mo:Int)-(s:Int)) E=E2:=by rw[Hb,shrI_nat,hH]
   have HG:hszs E2<=m:=by rw[<-hH];exact Hk.shrink_le m E
   have hh:=hid (show(Hk.TM.add ⟨E,mo⟩ ⟨hn,hv,hne⟩).E=E2++[⟨hn,hv,false⟩]by
    unfold Hk.TM.add;have hz:Hk.hz ⟨hn,hv,hne⟩=s:=hk.out;rw[if_neg (by rw[hz];exact h4),hz];show Hk.shrink (mo-s) E++[Hk.off ⟨hn,hv,hne⟩]=_;rw[hm,hH]
    rfl)
   have hf:=hP.out;rw[he]at hf;obtain⟨old,cs,hd,Hc,h9,hsz⟩:=hf;have hQ:=hid h9;have HH:=hid hd;have HI:=hid Hc;have He:=hid (show hszs E2+s<=mo by omega);have h6:=hid (hP.out.ne);have hq:E2.length<128:=by
    have h1:=hszs_32 E2;have h2:32<=s:=by have:=hk.out;omega
    have:=h5.out.1;omega
   have Hg:=hid hq;obtain⟨ln,hR⟩:∃ln,E2.length=ln:=⟨_,rfl⟩;have g2:w3.cell? ⟨g,2,none⟩=some (.int .i64 (ln:Nat)):=by rw[<-hR];exact hd.cell 2
   have gf2:=hd.frozen 2;have Hh:=hd.lt;have x2:w3.cell? ⟨w.heap.size,2,none⟩=some (.bool hne):=hG.out.cell 2;have xf2:=hG.out.frozen 2;have hI:=hG.out.lt;have h0:=hid (show w.heap.size≠g/\w.heap.size≠r by have:=HL.out;omega);have Hi:=h0.out.1;have HK:g≠w.heap.size:=λe=>Hi e.symm;have HN:=w64_succ ln (by omega);have hS:=hid hR;clear hd Hc h9 hsz HG hq he hH Hb hm h4 hR;go_upto_region 4 with fail;have Hj:=hid (HH.out.put 2 (.int .i64 ((ln+1:Nat):Int)));simp only[List.setIfInBounds_toArray,List.set_cons_zero,List.set_cons_succ]at Hj;have HO:=hid (HI.out.far (p:=⟨g,2,none⟩) (λe=>h6.out e.symm) (.int .i64 ((ln+1:Nat):Int)));have hJ:=hid (hG.out.far (p:=⟨g,2,none⟩) Hi (.int .i64 ((ln+1:Nat):Int)));have HR:=hid (H9.out.setCell (p:=⟨g,2,none⟩) (.inr (.inl rfl)) (.int .i64 ((ln+1:Nat):Int)));rw[show((ln:Int)+1)=((ln+1:Nat):Int)from rfl];clear g2 gf2 Hh x2 xf2 hI HN Ha;generalize w3.setCell ⟨g,2,none⟩ (.int .i64 ((ln+1:Nat):Int))=W4 at*
   have x2:W4.cell? ⟨w.heap.size,2,none⟩=some (.bool hne):=hJ.out.cell 2;have xf2:=hJ.out.frozen 2;have hI:=hJ.out.lt;go_upto_region 5 with fail;have h7:=hid (hJ.out.put 2 (.bool false));simp only[List.setIfInBounds_toArray,List.set_cons_zero,List.set_cons_succ]at h7;have hK:=hid (Hj.out.far (p:=⟨w.heap.size,2,none⟩) HK (.bool false));have h8:=hid (HO.out.far (p:=⟨w.heap.size,2,none⟩) (λe=>h0.out.2 e.symm) (.bool false));have HS:=hid (HR.out.setCell (p:=⟨w.heap.size,2,none⟩) (.inl (Nat.le_refl _)) (.bool false));clear x2 xf2 hI;generalize W4.setCell ⟨w.heap.size,2,none⟩ (.bool false)=W5 at*
   have Hl:=hid (show W5.cell? ⟨g,0,none⟩=some (.slice (some ⟨r,0,none⟩) 128 128)/\W5.cell? ⟨w.heap.size,0,none⟩=some (.string hn)/\W5.cell? ⟨w.heap.size,1,none⟩=some (.string hv)/\W5.cell? ⟨w.heap.size,2,none⟩=some (.bool false)from⟨hK.out.cell 0,h7.out.cell 0,h7.out.cell 1,h7.out.cell 2⟩);have Hm:=hid (λk=>(show(W5.drewN k).cell? ⟨g,0,none⟩=some (.slice (some ⟨r,0,none⟩) 128 128)/\(W5.drewN k).cell? ⟨w.heap.size,0,none⟩=some (.string hn)/\(W5.drewN k).cell? ⟨w.heap.size,1,none⟩=some (.string hv)/\(W5.drewN k).cell? ⟨w.heap.size,2,none⟩=some (.bool false)from Hl.out));obtain⟨p,hp⟩:∃p,(old+ln) % 128=p:=⟨_,rfl⟩;have HT:=hid (λk=>(show Calls Tryz.prog 172 #[.pointer (some ⟨g,0,none⟩),.int .i64 0] (W5.drewN k) λe w'=>e= .returned (.int .i64 (p:Nat))/\∃n,w'=W5.drewN n from by
    have h:=tat_any (W5.drewN k) g r old (ln+1) 0 _ _ (hK.out.drewN k) hQ.out.lt (by have:=Hg.out;have:=hS.out;omega) (by omega);rw[show(old+(ln+1)-1-0) % 128=p by rw[<-hp];congr 1]at h;refine h.mono ?_;rintro e w' ⟨rfl,n,rfl⟩;exact⟨rfl,drewN_post _ _ _⟩))
   have hc:p<128:=by rw[<-hp];exact Nat.mod_lt _ (by omega)
   have g4:(p:Int)<128:=by omega
   have HU:=hid (And.intro hp hc);obtain⟨y,Hn,Ho,Hp⟩:=hQ.out.any p hc;have rf0:=h8.out.frozen (p*3);have rf1:=h8.out.frozen (p*3+1);have rf2:=h8.out.frozen (p*3+2);have r0:W5.cell? ⟨r,p*3,none⟩=some (.string y.name):=(h8.out.cell _).trans Hn;have r1:W5.cell? ⟨r,p*3+1,none⟩=some (.string y.value):=(h8.out.cell _).trans Ho;have r2:W5.cell? ⟨r,p*3+2,none⟩=some (.bool y.never):=(h8.out.cell _).trans Hp;have HV:=h8.out.lt;have Hq:=hid (λk v0 v1 v2=>(show((((W5.drewN k).setCell ⟨r,p*3,none⟩ v0).setCell ⟨r,p*3+1,none⟩ v1).setCell ⟨r,p*3+2,none⟩ v2).cell? ⟨g,0,none⟩=some (.slice (some ⟨r,0,none⟩) 128 128)/\((((W5.drewN k).setCell ⟨r,p*3,none⟩ v0).setCell ⟨r,p*3+1,none⟩ v1).setCell ⟨r,p*3+2,none⟩ v2).cell? ⟨w.heap.size,0,none⟩=some (.string hn)/\((((W5.drewN k).setCell ⟨r,p*3,none⟩ v0).setCell ⟨r,p*3+1,none⟩ v1).setCell ⟨r,p*3+2,none⟩ v2).cell? ⟨w.heap.size,1,none⟩=some (.string hv)/\((((W5.drewN k).setCell ⟨r,p*3,none⟩ v0).setCell ⟨r,p*3+1,none⟩ v1).setCell ⟨r,p*3+2,none⟩ v2).cell? ⟨w.heap.size,2,none⟩=some (.bool false)from
    ⟨((((hK.out.drewN k).far (p:=⟨r,p*3,none⟩) h6.out v0).far (p:=⟨r,p*3+1,none⟩) h6.out v1).far (p:=⟨r,p*3+2,none⟩) h6.out v2).cell 0,((((h7.out.drewN k).far (p:=⟨r,p*3,none⟩) h0.out.2 v0).far (p:=⟨r,p*3+1,none⟩) h0.out.2 v1).far (p:=⟨r,p*3+2,none⟩) h0.out.2 v2).cell 0,((((h7.out.drewN k).far (p:=⟨r,p*3,none⟩) h0.out.2 v0).far (p:=⟨r,p*3+1,none⟩) h0.out.2 v1).far (p:=⟨r,p*3+2,none⟩) h0.out.2 v2).cell 1,((((h7.out.drewN k).far (p:=⟨r,p*3,none⟩) h0.out.2 v0).far (p:=⟨r,p*3+1,none⟩) h0.out.2 v1).far (p:=⟨r,p*3+2,none⟩) h0.out.2 v2).cell 2⟩))
   clear hp Hn Ho Hp;go_region_held3 (λW'=>W'.cell? ⟨g,0,none⟩=some (.slice (some ⟨r,0,none⟩) 128 128)/\W'.cell? ⟨w.heap.size,0,none⟩=some (.string hn)/\W'.cell? ⟨w.heap.size,1,none⟩=some (.string hv)/\W'.cell? ⟨w.heap.size,2,none⟩=some (.bool false)) (first|with_reducible exact Hl.out|with_reducible exact Hm.out _|with_reducible exact Hq.out _ _ _ _|exact Hm.out _|exact Hq.out _ _ _ _) (first
    |(go_at_call 172
      refine Calls.mono (HT.out _) ?_;rintro e w6 ⟨rfl,k6,hw⟩;subst w6)
    |fail)
   have HW:=hid ((((h8.out.drewN k6).put (p*3) (.string hn)).put (p*3+1) (.string hv)).put (p*3+2) (.bool false));have hL:=hid ((((hK.out.drewN k6).far (p:=⟨r,p*3,none⟩) h6.out (.string hn)).far (p:=⟨r,p*3+1,none⟩) h6.out (.string hv)).far (p:=⟨r,p*3+2,none⟩) h6.out (.bool false));have hM:=hid ((((h7.out.drewN k6).far (p:=⟨r,p*3,none⟩) h0.out.2 (.string hn)).far (p:=⟨r,p*3+1,none⟩) h0.out.2 (.string hv)).far (p:=⟨r,p*3+2,none⟩) h0.out.2 (.bool false));have Hs:=hid ((((HS.out.drewN k6).setCell (p:=⟨r,p*3,none⟩) (.inr (.inr rfl)) (.string hn)).setCell (p:=⟨r,p*3+1,none⟩) (.inr (.inr rfl)) (.string hv)).setCell (p:=⟨r,p*3+2,none⟩) (.inr (.inr rfl)) (.bool false));clear rf0 rf1 rf2 r0 r1 r2 HV;generalize (((W5.drewN k6).setCell ⟨r,p*3,none⟩ (.string hn)).setCell ⟨r,p*3+1,none⟩ (.string hv)).setCell ⟨r,p*3+2,none⟩ (.bool false)=W7 at*
   obtain⟨s2,hj⟩:∃s2,hszs E2=s2:=⟨_,rfl⟩;have g3:W7.cell? ⟨g,3,none⟩=some (.int .i64 (s2:Nat)):=by rw[<-hj];exact hL.out.cell 3
   have gf3:=hL.out.frozen 3;have Hh:=hL.out.lt;have x0:W7.cell? ⟨w.heap.size,0,none⟩=some (.string hn):=hM.out.cell 0;have x1:W7.cell? ⟨w.heap.size,1,none⟩=some (.string hv):=hM.out.cell 1;have x2:W7.cell? ⟨w.heap.size,2,none⟩=some (.bool false):=hM.out.cell 2;have hI:=hM.out.lt;have hY:=hid (λW=>hsize_any hn hv false W h5.out.2.1 h5.out.2.2);have g0:IntKind.i64.wrap ((s2:Int)+((hn.size:Int)+(hv.size:Int)+32))=((s2+s:Nat):Int):=by
    have h1:=hk.out;have h2:=He.out;have h3:=h5.out.1;rw[IntKind.wrap_i64];omega
   have Ht:=hid (show hszs (E2++[⟨hn,hv,false⟩])=s2+s by
    rw[<-hj,<-hk.out];simp[hszs,hsz])
   have HY:=hid (show s2+s<=4096 by have:=He.out;have:=h5.out.1;omega);clear hj;go_wp2_with fail;go_region_with (first
    |(go_at_call 135
      with_reducible refine Calls.mono (hY.out _) ?_
      rintro e w8 ⟨rfl,hw⟩;subst w8)
    |fail)
   all_goals
    go_end0;refine⟨rfl,?_,((Hs.out.setCell (p:=⟨g,3,none⟩) (.inr (.inl rfl)) (.int .i64 ((s2+s:Nat):Int))).alloc (by have:=Hs.out.size;simp[World.setCell];omega) _).drew⟩;rw[hh.out];refine⟨old,_,?_,(HW.out.far (p:=⟨g,3,none⟩) (λe=>h6.out e.symm) _).alloc _,hQ.out.snoc ⟨hn,hv,false⟩ Hg.out p (by rw[<-HU.out.1,hS.out]),?_⟩
    · have h1:=(hL.out.put 3 (.int .i64 ((s2+s:Nat):Int))).alloc (.cells #[.string hn,.string hv,.bool false] 63)
      simp only[List.setIfInBounds_toArray,List.set_cons_zero,List.set_cons_succ]at h1;rw[Ht.out,List.length_append,hS.out];exact h1
    · rw[Ht.out]
      exact HY.out
end Go.Proofs.YtkpppjhbmnfmkaaGreatDoor
end
