/-
  
  
-/
import Derived.Test.YtkpppjhbmnfmkaaGreatDoorT6
import Derived.Test.YtkpppjhbmnfmkaaGreatDoorJab
import Derived.Test.YtkpppjhbmnfmkaaGreatDoorJaq
import Derived.BigQuiet
import Derived.Deep.RegionLaw
set_option linter.unusedSimpArgs false
set_option linter.unusedVariables false
section
namespace Go.Proofs.YtkpppjhbmnfmkaaGreatDoor
open Go.RowKit Go.Own Go.Own.Im Go.Own.Cx Go.Own.Fr
section
variable {wA w8:World} {ow:Nat->Tg} {b:Nat} {M:Cv} {L:Lay} {row:Option Nat}
theorem CN.waited (h:CN wA ow b M L) {s:Sv} (hs:s∈M.strs) {v:Value} {l:List UInt8} (hO:Oz w8 (λg=>ow g= .st s.id 5\/(row=none/\g=wA.heap.size)) v l) (hg:wA.grownBy w8 row) (hr:∀g,row=some g->ow g= .st s.id 5/\g<wA.heap.size):
 ∃ow' L',CN (w8.setCell ⟨(L.s s.id).sb,6,none⟩ v) ow' b {M with strs:=updS M.strs {s with waits:=l}} L'/\Fr wA ow (w8.setCell ⟨(L.s s.id).sb,6,none⟩ v) ow'/\∀id,(L'.s id).sb=(L.s id).sb:=by
 obtain⟨ow',k,h6,h2,h3⟩:=h.apped hg hr (by simp);have hS:=h.p.strs s hs;have hz:Oz w8 (λg=>ow' g= .st s.id 5) v l:=hO.owned h3;have hsz:(w8.setCell ⟨(L.s s.id).sb,6,none⟩ v).heap.size=w8.heap.size:=by simp[World.setCell]
 have hp:=k.at_ (.st s.id 0) (by simp) (by simp) _ hS.tb hS.blk.lt;have h7:Blk w8 (L.s s.id).sb 122 (stC s (L.s s.id)):=hp.1.trans hS.blk;have k2:Kp (λx=>x= .st s.id 5\/x= .st s.id 0) wA ow (w8.setCell ⟨(L.s s.id).sb,6,none⟩ v) ow':=⟨by have:=k.size;omega,λg hn ht h8=>by
  have h1:=k.keep g hn (λe=>ht (.inl e)) h8;exact⟨(Below.heap_setCell w8 _ _ g (λe=>ht (.inr (by rw[e];exact hS.tb)))).trans h1.1,h1.2⟩⟩
 have h4:=h.blkK k2 (by simp);have h0:Blk (w8.setCell ⟨(L.s s.id).sb,6,none⟩ v) (L.s s.id).sb 122 (stC {s with waits:=l} {L.s s.id with waits:=v}):=h7.put 6 v;have h9:Oz (w8.setCell ⟨(L.s s.id).sb,6,none⟩ v) (λg=>ow' g= .st s.id 5) v l:=hz.grown (grown_setCell (World.grownBy.refl w8 (some (L.s s.id).sb)) 6 v) λg e he=>by
  injection e with e
  subst e;rw[hp.2]at he;simp at he
 have hb:∀x∈updS M.strs {s with waits:=l},SN (w8.setCell ⟨(L.s s.id).sb,6,none⟩ v) ow' L.ob ((λi=>if i=s.id then{L.s s.id with waits:=v}else L.s i) x.id) x:=by
  intro x hx;obtain⟨y,hy,rfl⟩:=List.mem_map.1 hx;by_cases e:y.id=s.id
  · rw[if_pos e]
    show SN _ ow' L.ob (if s.id=s.id then{L.s s.id with waits:=v}else L.s s.id) _;rw[if_pos rfl];exact⟨h0,hp.2,(k2.at_ (.st s.id 1) (by simp) (by simp) _ hS.ti hS.inw.lt).1.trans hS.inw,(k2.at_ (.st s.id 1) (by simp) (by simp) _ hS.ti hS.inw.lt).2,
     (k2.at_ (.st s.id 2) (by simp) (by simp) _ hS.tu hS.outw.lt).1.trans hS.outw,(k2.at_ (.st s.id 2) (by simp) (by simp) _ hS.tu hS.outw.lt).2,
     (k2.at_ (.st s.id 3) (by simp) (by simp) _ hS.tp hS.pair.lt).1.trans hS.pair,(k2.at_ (.st s.id 3) (by simp) (by simp) _ hS.tp hS.pair.lt).2,
     (k2.at_ (.st s.id 4) (by simp) (by simp) _ hS.tr hS.row.lt).1.trans hS.row,(k2.at_ (.st s.id 4) (by simp) (by simp) _ hS.tr hS.row.lt).2,h9⟩
  · rw[if_neg e]
    show SN _ ow' L.ob (if y.id=s.id then{L.s s.id with waits:=v}else L.s y.id) y;rw[if_neg e];exact h.p.strK k2 y hy (by intro j;simp;exact⟨λe2=>absurd e2 e,λe2=>absurd e2 e⟩)
 have h5:∀id,((λi=>if i=s.id then{L.s s.id with waits:=v}else L.s i) id).sb=(L.s id).sb:=by
  intro id;show(if id=s.id then{L.s s.id with waits:=v}else L.s id).sb=_;by_cases e:id=s.id
  · rw[if_pos e,e]
  · rw[if_neg e]
 refine⟨ow',{L with s:=λi=>if i=s.id then{L.s s.id with waits:=v}else L.s i},⟨h4.1,h4.2,⟨h.p.fedK k2 (by simp),h.p.outK k2 (by simp),h.p.evK k2 (by simp) (by simp),(h.p.inwK k2 (by simp)).1,(h.p.inwK k2 (by simp)).2,(h.p.outwK k2 (by simp)).1,(h.p.outwK k2 (by simp)).2,?_,(h.p.mapK k2 (by simp)).2,hb,
  h.p.lstK k2 (by simp) (by simp),h.p.encK k2 (by simp),h.p.decK k2 (by simp)⟩,λg hc=>h2 g (by omega)⟩,h6.trans ?_,h5⟩
 · show SM _ _ _ _ ((updS M.strs {s with waits:=l}).map (·.id)) _
   rw[updS_ids];refine(h.p.mapK k2 (by simp)).1.same λi _=>?_;unfold sptr;rw[h5 i]
 · exact Fr.grown (grown_setCell (World.grownBy.refl w8 (some (L.s s.id).sb)) 6 v) λg e=>by injection e with e;subst e;rw[hp.2];simp
end
section
variable {w:World} {ow:Nat->Tg} {b:Nat} {M:Cv} {L:Lay} {a:Addr}
end
end Go.Proofs.YtkpppjhbmnfmkaaGreatDoor
end

section
set_option maxHeartbeats 4000000
set_option maxRecDepth 100000
namespace Go.Proofs.YtkpppjhbmnfmkaaGreatDoor
open Lib (hid)
open Go.RowKit Go.Own Go.Own.Im Go.Own.Cx Go.Own.Fr
attribute [local go_sem] Oper.semAt_some
theorem updS_two (l:List Sv) {s1 s2:Sv} (e:s2.id=s1.id):updS (updS l s1) s2=updS l s2:=by
 unfold updS;rw[List.map_map];refine List.map_congr_left λx _=>?_;show(if(if x.id=s1.id then s1 else x).id=s2.id then s2 else if x.id=s1.id then s1 else x)=_;by_cases h:x.id=s1.id
 · rw[if_pos h,if_pos e.symm,if_pos (h.trans e.symm)]
 · rw[if_neg h]
theorem mem_updS {l:List Sv} {s s':Sv} (hs:s∈l) (e:s.id=s'.id):s'∈updS l s':=List.mem_map.2 ⟨s,hs,by simp[e]⟩
def sentS (s:Sv) (l:List UInt8) (fin:Bool):Sv:={s with waits:=s.waits++l,own:=if fin then 2 else s.own}
theorem send_ok (w:World) (ow:Nat->Tg) (b:Nat) (M:Cv) (L:Lay) (h:CN w ow b M L) (hd:M.dead=false) (s:Sv) (id:Int) (hs:strAt M id=some s) (ho:s.own=1) (hw:(Lit.int .i64 id).wf=true) (A:Option Addr) (n c:Nat) (l:List UInt8) (fin:Bool) (hr:Rd w w.heap.size A n l) (hn:s.waits.length+n<=140737488355328):
 Calls Tryz.prog 30 #[.pointer (some ⟨b,0,none⟩),.int .i64 id,.slice A n c,.bool fin] w (CPost w ow b {M with strs:=updS M.strs (sentS s l fin)} .nilIface):=by
 have h0:=(at_some (L:=L) hs).2.1;have HS:=hid (sending_ok h hd s id hs ho hw);have HC:=hid h;have HR:=hid hr;have HM:=hid h0;have HN:=hid hn;obtain⟨A0,c0,hi,_,_⟩:=(h.p.strs s h0).waits.form;have h6:=hid hi;clear h hr h0 hn ho hi hs hd hw;obtain⟨sb,h7⟩:∃g,(L.s s.id).sb=g:=⟨_,rfl⟩;have HB:=hid h7;rw[h7]at HS;clear h7;cases fin;all_goals
  go_enter Tryz.func30,Tryz.ntmps30;go_wp2_with fail;refine HS.out.mono ?_;rintro e w1 ⟨rfl,m,rfl⟩;have hj:=hid (HC.out.drewN m);have hA:=hid (show Rd (w.drewN m) w.heap.size A n l from HR.out);have hC:=hid (Fr.drewN w ow m);generalize w.drewN m=W1 at*
  have h2:=hj.out.p.strs s HM.out;have h8:=h2.waits;have h3:=h2.blk;have h9:=h2.tb;rw[h6.out]at h8;rw[HB.out]at h3 h9;have d6:W1.cell? ⟨sb,6,none⟩=some (L.s s.id).waits:=h3.cell 6;have hh:=hid (show(L.s s.id).waits= .slice A0 s.waits.length c0 from h6.out);rw[h6.out]at d6;have hD:=hid h8;have hE:=hid h3;have hF:=hid h9;have hG:=hid (show s.waits.length+n<=140737488355328 from HN.out);clear h8 h3 h9 h2;go_upto_region 5 with(first
   |(at_builtin
     refine wpList_app_z byteP _ rfl (.tmp 24) (.tmp 25) rfl (λg=>ow g= .st s.id 5) (.slice A0 s.waits.length c0) s.waits rfl hD.out w.heap.size A n c l rfl hA.out hG.out ?_;intro A8 c8 w8 row8 hl hb hc;have HW:=hid (hj.out.waited HM.out hl hb hc);have he:=hE.out.grown hb (λe=>by have h1:=(hc sb e.symm).1;rw[hF.out]at h1;simp at h1);have hH:w8.frozen? ⟨sb,6,none⟩=false:=he.frozen 6;have hm:w8.cell? ⟨sb,6,none⟩=some (L.s s.id).waits:=he.cell 6;rw[hh.out]at hm;rw[HB.out]at HW;clear he hl hb hc)
   |fail)
  obtain⟨ow9,L9,h4,hq,ht⟩:=HW.out;have hI:=hid h4;have hu:=hid (hC.out.trans hq);have hf:({s with waits:=s.waits++l}:Sv)∈updS M.strs {s with waits:=s.waits++l}:=mem_updS HM.out rfl;have h5:=(h4.p.strs _ hf).blk;have e9:(L9.s s.id).sb=sb:=(ht s.id).trans HB.out;rw[show(L9.s ({s with waits:=s.waits++l}:Sv).id).sb=sb from e9]at h5;have s1:=h5.cell 1;have sf:=h5.frozen 1;have hk:=h4.strcell (s:={s with waits:=s.waits++l}) (s':={s with waits:=s.waits++l,own:=2}) hf rfl 1 (.int .i64 2) rfl rfl rfl rfl;rw[show(L9.s ({s with waits:=s.waits++l}:Sv).id).sb=sb from e9]at hk;have e2:=updS_two M.strs (s1:={s with waits:=s.waits++l}) (s2:={s with waits:=s.waits++l,own:=2}) rfl;have HK:=hid hk;have hJ:=hid e2;clear h4 hq ht hf h5 e9 hk e2 d6 hH hm;generalize w8.setCell ⟨sb,6,none⟩ (.slice A8 (s.waits.length+n) c8)=W9 at*
  go_wp2;go_ret
 · exact⟨ow9,L9,rfl,hI.out,hu.out⟩
 · refine⟨ow9,L9,rfl,?_,hu.out.trans HK.out.2⟩
   have h:=HK.out.1;simp only[hJ.out]at h;exact h
end Go.Proofs.YtkpppjhbmnfmkaaGreatDoor
end
