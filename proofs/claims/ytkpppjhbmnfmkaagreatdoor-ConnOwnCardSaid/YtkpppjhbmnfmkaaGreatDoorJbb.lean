/-
  
  
  
  
  
  
-/
import Derived.Test.YtkpppjhbmnfmkaaGreatDoorJak
import Derived.Test.YtkpppjhbmnfmkaaGreatDoorJaq
import Derived.Test.YtkpppjhbmnfmkaaGreatDoorIt
import Derived.Test.YtkpppjhbmnfmkaaGreatDoorJba
import Derived.Test.YtkpppjhbmnfmkaaGreatDoorJan
import Derived.Test.YtkpppjhbmnfmkaaGreatDoorHy
import Derived.BigQuiet
import Derived.Deep.RegionHeld3
import Derived.Test.YtkpppjhbmnfmkaaGreatDoorJam
import Derived.Test.YtkpppjhbmnfmkaaGreatDoorJas
set_option linter.unusedSimpArgs false
set_option linter.unusedVariables false
section
set_option maxHeartbeats 4000000
set_option maxRecDepth 100000
namespace Go.Proofs.YtkpppjhbmnfmkaaGreatDoor
open Go.RowKit Go.Own Go.Own.Im Go.Own.Cx Go.Own.Fr
section
variable {w:World} {ow:Nat->Tg} {b:Nat} {M:Cv} {L:Lay}
theorem CN.inws (h:CN w ow b M L) (v:Int):CN (w.setCell ⟨L.ib,0,none⟩ (.int .i64 v)) ow b {M with inw:=v} L/\Fr w ow (w.setCell ⟨L.ib,0,none⟩ (.int .i64 v)) ow:=by
 have hsz:(w.setCell ⟨L.ib,0,none⟩ (.int .i64 v)).heap.size=w.heap.size:=by simp[World.setCell]
 have k:Kp (λx=>x= .inw) w ow (w.setCell ⟨L.ib,0,none⟩ (.int .i64 v)) ow:=
  ⟨by omega,λg _ ht _=>⟨Below.heap_setCell w _ _ g (λe=>ht (by rw[e];exact h.p.ti)),rfl⟩⟩
 have h0:=h.blkK k (by decide);have hi:Blk (w.setCell ⟨L.ib,0,none⟩ (.int .i64 v)) L.ib 177 #[.int .i64 v]:=h.p.inw.put 0 (.int .i64 v);refine⟨⟨h0.1,h0.2,⟨h.p.fedK k (by decide),h.p.outK k (by decide),h.p.evK k (by decide) (by decide),hi,h.p.ti,(h.p.outwK k (by decide)).1,(h.p.outwK k (by decide)).2,(h.p.mapK k (by decide)).1,(h.p.mapK k (by decide)).2,λs hs=>h.p.strK k s hs (by intro j;simp),h.p.lstK k (by decide) (by decide),h.p.encK k (by decide),h.p.decK k (by decide)⟩,λg hg=>h.new g (by omega)⟩,?_⟩;exact Fr.grown (grown_setCell (World.grownBy.refl w (some L.ib)) 0 _) λg e=>by injection e with e;subst e;rw[h.p.ti];decide
theorem CN.sins (h:CN w ow b M L) {s:Sv} (hs:s∈M.strs) (v:Int):CN (w.setCell ⟨(L.s s.id).ib,0,none⟩ (.int .i64 v)) ow b {M with strs:=updS M.strs {s with inw:=v}} L/\Fr w ow (w.setCell ⟨(L.s s.id).ib,0,none⟩ (.int .i64 v)) ow:=by
 have hS:=h.p.strs s hs;have hsz:(w.setCell ⟨(L.s s.id).ib,0,none⟩ (.int .i64 v)).heap.size=w.heap.size:=by simp[World.setCell]
 have k:Kp (λx=>x= .st s.id 1) w ow (w.setCell ⟨(L.s s.id).ib,0,none⟩ (.int .i64 v)) ow:=
  ⟨by omega,λg _ ht _=>⟨Below.heap_setCell w _ _ g (λe=>ht (by rw[e];exact hS.ti)),rfl⟩⟩
 have h0:=h.blkK k (by simp);have hi:Blk (w.setCell ⟨(L.s s.id).ib,0,none⟩ (.int .i64 v)) (L.s s.id).ib 177 #[.int .i64 v]:=hS.inw.put 0 (.int .i64 v);have h1:∀x∈updS M.strs {s with inw:=v},SN (w.setCell ⟨(L.s s.id).ib,0,none⟩ (.int .i64 v)) ow L.ob (L.s x.id) x:=by
  intro x hx;obtain⟨y,hy,rfl⟩:=List.mem_map.1 hx;by_cases e:y.id=s.id
  · rw[if_pos e]
    exact⟨(k.at_ (.st s.id 0) (by simp) (by simp) _ hS.tb hS.blk.lt).1.trans hS.blk,hS.tb,hi,hS.ti,(k.at_ (.st s.id 2) (by simp) (by simp) _ hS.tu hS.outw.lt).1.trans hS.outw,hS.tu,(k.at_ (.st s.id 3) (by simp) (by simp) _ hS.tp hS.pair.lt).1.trans hS.pair,hS.tp,
     (k.at_ (.st s.id 4) (by simp) (by simp) _ hS.tr hS.row.lt).1.trans hS.row,hS.tr,hS.waits.turn (λg h2 ho=>k.at_ (.st s.id 5) (by simp) (by simp) g ho h2) k.size⟩
  · rw[if_neg e]
    exact h.p.strK k y hy (by intro j;simp;intro e2;exact absurd e2 e)
 refine⟨⟨h0.1,h0.2,⟨h.p.fedK k (by simp),h.p.outK k (by simp),h.p.evK k (by simp) (by simp),(h.p.inwK k (by simp)).1,(h.p.inwK k (by simp)).2,(h.p.outwK k (by simp)).1,(h.p.outwK k (by simp)).2,?_,(h.p.mapK k (by simp)).2,h1,h.p.lstK k (by simp) (by simp),h.p.encK k (by simp),h.p.decK k (by simp)⟩,λg hg=>h.new g (by omega)⟩,?_⟩
 · show SM _ _ _ _ ((updS M.strs {s with inw:=v}).map (·.id)) _
   rw[updS_ids];exact(h.p.mapK k (by simp)).1
 · exact Fr.grown (grown_setCell (World.grownBy.refl w (some (L.s s.id).ib)) 0 _) λg e=>by injection e with e;subst e;rw[hS.ti];simp
end
theorem infC_win (s n:Nat):infC {typ:=8,stream:=s,inc:=n} (.slice none 0 0) (.slice none 0 0)= #[.int .i64 8,.int .i64 0,.int .i64 (s:Nat),.bool false,.bool false,.bool false,.bool false,.bool false,.bool false,.int .i64 0,.int .i64 0,.int .i64 0,.int .i64 0,.int .i64 0,.int .i64 (n:Nat),.int .i64 0,.slice none 0 0,.slice none 0 0]:=rfl
theorem flg_win (s n:Nat):flg {typ:=8,stream:=s,inc:=n}=0:=by simp[flg]
theorem pay_win (s n:Nat):pay {typ:=8,stream:=s,inc:=n}=be n 4:=by simp[pay]
theorem gives_conn (w:World) (ow:Nat->Tg) (b:Nat) (M:Cv) (L:Lay) (n:Nat) (h:CN w ow b M L) (h0:0<n) (hn:n<=2147483647) (ha: -2147483647<=M.inw/\M.inw<=2147483647) (hs:M.inw+n<=2147483647) (ho:M.out.length<=1000000000):
 Calls Tryz.prog 147 #[.pointer (some ⟨b,0,none⟩),.int .i64 0,.int .i64 (n:Nat)] w (CPostL w ow b L {M with inw:=M.inw+n,out:=M.out++frameB 8 0 0 (be n 4)} (.tuple #[])):=by
 have hg:=h.inws (M.inw+n);have HG:=Lib.hid (give_yes w L.ib M.inw n h.p.inw ha h0 hs hn);have HP:=put_anyL _ ow b _ L _ _ hg.1 rfl (bld_win _ 0 n h0 hn (by decide)) ho;rw[infC_win,flg_win,pay_win]at HP;have HP:=Lib.hid HP;have HF:=Lib.hid hg.2;have c8:w.cell? ⟨b,8,none⟩=some (.pointer (some ⟨L.ib,0,none⟩)):=h.blk.cell 8;have k0:((n:Int)==0)=false:=by simp;omega
 have k0':((n:Int)=0)=False:=by simp;omega
 clear hg h ha hs hn h0 ho;go_enter Tryz.func147,Tryz.ntmps147;go_wp2_with fail;refine HG.out.mono ?_;rintro e w1 ⟨rfl,rfl⟩;go_wp2_with fail;refine HP.out.mono ?_;rintro e w2 ⟨ow2,L2,rfl,h1,h2,h3⟩;have HQ:=Lib.hid (show _/\_/\_ from⟨h1,h2,h3⟩);clear h1 h2 h3;go_wp2;go_end0;exact⟨ow2,L2,rfl,HQ.out.1,HF.out.trans HQ.out.2.1,HQ.out.2.2⟩
theorem gives_str (w:World) (ow:Nat->Tg) (b:Nat) (M:Cv) (L:Lay) (s:Sv) (n:Nat) (h:CN w ow b M L) (h3:strAt M (s.id:Int)=some s) (hid:0<s.id/\s.id<=2147483647) (h0:0<n) (hn:n<=2147483647) (ha: -2147483647<=s.inw/\s.inw<=2147483647) (hs:s.inw+n<=2147483647) (ho:M.out.length<=1000000000):
 Calls Tryz.prog 147 #[.pointer (some ⟨b,0,none⟩),.int .i64 (s.id:Nat),.int .i64 (n:Nat)] w (CPostL w ow b L {M with strs:=updS M.strs {s with inw:=s.inw+n},out:=M.out++frameB 8 0 s.id (be n 4)} (.tuple #[])):=by
 obtain⟨h1,h2,_⟩:=at_some (L:=L) h3;have hS:=h.p.strs s h2;have hg:=h.sins h2 (s.inw+n);have HG:=Lib.hid (give_yes w (L.s s.id).ib s.inw n hS.inw ha h0 hs hn);have HP:=put_anyL _ ow b _ L _ _ hg.1 rfl (bld_win _ s.id n h0 hn hid.2) ho;rw[infC_win,flg_win,pay_win]at HP;have HP:=Lib.hid HP;have HF:=Lib.hid hg.2;have hw:(Lit.int .i64 (s.id:Int)).wf=true:=by simp[Lit.wf,IntKind.min,IntKind.max,IntKind.bits,IntKind.signed];omega
 have c8:w.cell? ⟨b,8,none⟩=some (.pointer (some ⟨L.ib,0,none⟩)):=h.blk.cell 8;have c15:w.cell? ⟨b,15,none⟩=some (.map (some L.mb)):=h.blk.cell 15;have h7:=look_str h (s.id:Int) hw;rw[h1]at h7;have d3:w.cell? ⟨(L.s s.id).sb,3,none⟩=some (.pointer (some ⟨(L.s s.id).ib,0,none⟩)):=hS.blk.cell 3;have k0:((n:Int)==0)=false:=by simp;omega
 have k0':((n:Int)=0)=False:=by simp;omega
 have k1:((0:Int)<(s.id:Int))=True:=by simp;omega
 have k1':(0<s.id)=True:=by simp;omega
 clear hg h ha hs hn h0 ho hS h3 h1 h2 hid hw;go_enter Tryz.func147,Tryz.ntmps147;go_wp2_with fail;refine HG.out.mono ?_;rintro e w1 ⟨rfl,rfl⟩;go_wp2_with fail;refine HP.out.mono ?_;rintro e w2 ⟨ow2,L2,rfl,h4,h5,h6⟩;have HQ:=Lib.hid (show _/\_/\_ from⟨h4,h5,h6⟩);clear h4 h5 h6;go_wp2;go_end0;exact⟨ow2,L2,rfl,HQ.out.1,HF.out.trans HQ.out.2.1,HQ.out.2.2⟩
end Go.Proofs.YtkpppjhbmnfmkaaGreatDoor
end

section
namespace Go.Proofs.YtkpppjhbmnfmkaaGreatDoor
open Go.RowKit Go.Own Go.Own.Im Go.Own.Cx Go.Own.Fr
section
variable {w:World} {ow:Nat->Tg} {b:Nat} {M:Cv} {L:Lay}
theorem CN.outws (h:CN w ow b M L) (v:Int):CN (w.setCell ⟨L.ob,0,none⟩ (.int .i64 v)) ow b {M with outw:=v} L/\Fr w ow (w.setCell ⟨L.ob,0,none⟩ (.int .i64 v)) ow:=by
 have hsz:(w.setCell ⟨L.ob,0,none⟩ (.int .i64 v)).heap.size=w.heap.size:=by simp[World.setCell]
 have k:Kp (λx=>x= .outw) w ow (w.setCell ⟨L.ob,0,none⟩ (.int .i64 v)) ow:=
  ⟨by omega,λg _ ht _=>⟨Below.heap_setCell w _ _ g (λe=>ht (by rw[e];exact h.p.tu)),rfl⟩⟩
 have h0:=h.blkK k (by decide);have hi:Blk (w.setCell ⟨L.ob,0,none⟩ (.int .i64 v)) L.ob 177 #[.int .i64 v]:=h.p.outw.put 0 (.int .i64 v);refine⟨⟨h0.1,h0.2,⟨h.p.fedK k (by decide),h.p.outK k (by decide),h.p.evK k (by decide) (by decide),(h.p.inwK k (by decide)).1,(h.p.inwK k (by decide)).2,hi,h.p.tu,(h.p.mapK k (by decide)).1,(h.p.mapK k (by decide)).2,λs hs=>h.p.strK k s hs (by intro j;simp),h.p.lstK k (by decide) (by decide),h.p.encK k (by decide),h.p.decK k (by decide)⟩,λg hg=>h.new g (by omega)⟩,?_⟩;exact Fr.grown (grown_setCell (World.grownBy.refl w (some L.ob)) 0 _) λg e=>by injection e with e;subst e;rw[h.p.tu];decide
theorem CN.souts (h:CN w ow b M L) {s:Sv} (hs:s∈M.strs) (v:Int):CN (w.setCell ⟨(L.s s.id).ob,0,none⟩ (.int .i64 v)) ow b {M with strs:=updS M.strs {s with outw:=v}} L/\Fr w ow (w.setCell ⟨(L.s s.id).ob,0,none⟩ (.int .i64 v)) ow:=by
 have hS:=h.p.strs s hs;have hsz:(w.setCell ⟨(L.s s.id).ob,0,none⟩ (.int .i64 v)).heap.size=w.heap.size:=by simp[World.setCell]
 have k:Kp (λx=>x= .st s.id 2) w ow (w.setCell ⟨(L.s s.id).ob,0,none⟩ (.int .i64 v)) ow:=
  ⟨by omega,λg _ ht _=>⟨Below.heap_setCell w _ _ g (λe=>ht (by rw[e];exact hS.tu)),rfl⟩⟩
 have h0:=h.blkK k (by simp);have hi:Blk (w.setCell ⟨(L.s s.id).ob,0,none⟩ (.int .i64 v)) (L.s s.id).ob 177 #[.int .i64 v]:=hS.outw.put 0 (.int .i64 v);have h1:∀x∈updS M.strs {s with outw:=v},SN (w.setCell ⟨(L.s s.id).ob,0,none⟩ (.int .i64 v)) ow L.ob (L.s x.id) x:=by
  intro x hx;obtain⟨y,hy,rfl⟩:=List.mem_map.1 hx;by_cases e:y.id=s.id
  · rw[if_pos e]
    exact⟨(k.at_ (.st s.id 0) (by simp) (by simp) _ hS.tb hS.blk.lt).1.trans hS.blk,hS.tb,(k.at_ (.st s.id 1) (by simp) (by simp) _ hS.ti hS.inw.lt).1.trans hS.inw,hS.ti,hi,hS.tu,(k.at_ (.st s.id 3) (by simp) (by simp) _ hS.tp hS.pair.lt).1.trans hS.pair,hS.tp,
     (k.at_ (.st s.id 4) (by simp) (by simp) _ hS.tr hS.row.lt).1.trans hS.row,hS.tr,hS.waits.turn (λg h2 ho=>k.at_ (.st s.id 5) (by simp) (by simp) g ho h2) k.size⟩
  · rw[if_neg e]
    exact h.p.strK k y hy (by intro j;simp;intro e2;exact absurd e2 e)
 refine⟨⟨h0.1,h0.2,⟨h.p.fedK k (by simp),h.p.outK k (by simp),h.p.evK k (by simp) (by simp),(h.p.inwK k (by simp)).1,(h.p.inwK k (by simp)).2,(h.p.outwK k (by simp)).1,(h.p.outwK k (by simp)).2,?_,(h.p.mapK k (by simp)).2,h1,h.p.lstK k (by simp) (by simp),h.p.encK k (by simp),h.p.decK k (by simp)⟩,λg hg=>h.new g (by omega)⟩,?_⟩
 · show SM _ _ _ _ ((updS M.strs {s with outw:=v}).map (·.id)) _
   rw[updS_ids];exact(h.p.mapK k (by simp)).1
 · exact Fr.grown (grown_setCell (World.grownBy.refl w (some (L.s s.id).ob)) 0 _) λg e=>by injection e with e;subst e;rw[hS.tu];simp
theorem CN.waitsAre (h:CN w ow b M L) {s:Sv} (hs:s∈M.strs) {v:Value} {l:List UInt8} (hO:Oz w (λg=>ow g= .st s.id 5) v l):
 ∃ow' L',CN (w.setCell ⟨(L.s s.id).sb,6,none⟩ v) ow' b {M with strs:=updS M.strs {s with waits:=l}} L'/\Fr w ow (w.setCell ⟨(L.s s.id).sb,6,none⟩ v) ow'/\∀id,(L'.s id).sb=(L.s id).sb:=
 h.waited (row:=none) hs (hO.owned λg _ e=>.inl e) (World.grownBy.refl w none) (λg e=>by cases e)
end
end Go.Proofs.YtkpppjhbmnfmkaaGreatDoor
end

section
set_option maxHeartbeats 16000000
set_option maxRecDepth 100000
namespace Go.Proofs.YtkpppjhbmnfmkaaGreatDoor
open Go.RowKit Go.Own Go.Own.Im Go.Own.Cx Go.Own.Fr
def goneS (s:Sv) (k:Nat):Sv:={s with outw:=s.outw-k,waits:=s.waits.drop k}
def goneC (M:Cv) (s:Sv) (k:Nat) (fin:Bool):Cv:={M with outw:=M.outw-k,strs:=updS M.strs (goneS s k),out:=M.out++frameB 0 (if fin then 1 else 0) s.id (s.waits.take k)}
theorem infC_data (s:Nat) (e:Bool) (l:List UInt8) (v:Value):infC {typ:=0,stream:=s,endd:=e,data:=l} (.slice none 0 0) v= #[.int .i64 0,.int .i64 0,.int .i64 (s:Nat),.bool e,.bool false,.bool false,.bool false,.bool false,.bool false,.int .i64 0,.int .i64 0,.int .i64 0,.int .i64 0,.int .i64 0,.int .i64 0,.int .i64 0,.slice none 0 0,v]:=rfl
theorem flg_data (s:Nat) (e:Bool) (l:List UInt8):flg {typ:=0,stream:=s,endd:=e,data:=l}=if e then 1 else 0:=by cases e<;>simp[flg]
theorem prm_le (n x y:Int) (k:Nat) (h:prm n x y=(k:Int)) (h0:0<k):(k:Int)<=n/\(k:Int)<=x/\(k:Int)<=y:=by
 unfold prm at h;omega
theorem sends_data (w:World) (ow:Nat->Tg) (b:Nat) (M:Cv) (L:Lay) (s:Sv) (n k:Nat) (fin:Bool) (h:CN w ow b M L) (hs:s∈M.strs) (hu:(M.strs.map (·.id)).Nodup) (hid:0<s.id/\s.id<=2147483647) (hL:s.own=2) (H4:s.trails=false) (hh:s.held=0) (hn:s.waits.length=n) (H5:n<=1000000)
 (hk:prm (min (n:Int) 16384) M.outw s.outw=(k:Int)) (h0:0<k) (hfin:fin=decide (k=n)) (hx:M.outw<=2147483647) (hy:s.outw<=2147483647) (ho:M.out.length<=1000000000):
 Calls Tryz.prog 43 #[.pointer (some ⟨b,0,none⟩),.pointer (some ⟨(L.s s.id).sb,0,none⟩)] w (CPost w ow b (finM (goneC M s k fin) (goneS s k) fin) (.bool true)):=by
 obtain⟨Ha,H7,H8⟩:=prm_le _ _ _ _ hk h0;have hS:=h.p.strs s hs;have hj:k<=n:=by omega
 have H2:k<=16384:=by omega
 obtain⟨A0,c0,hF,hO,H3⟩:=hS.waits.form;rw[hn]at hF hO;have h2:=Lib.hid (pair_room w (L.s s.id).pb (L.s s.id).rb L.ob (L.s s.id).ob M.outw s.outw (min (n:Int) 16384) hS.pair hS.row h.p.outw hS.outw);rw[hk]at h2;have ne1:(L.s s.id).pb≠L.ob:=λe=>by have h1:=hS.tp;rw[e,h.p.tu]at h1;cases h1
 have ne2:(L.s s.id).rb≠L.ob:=λe=>by have h1:=hS.tr;rw[e,h.p.tu]at h1;cases h1
 have ne3:(L.s s.id).ob≠L.ob:=λe=>by have h1:=hS.tu;rw[e,h.p.tu]at h1;cases h1
 have ne4:(L.s s.id).pb≠(L.s s.id).ob:=λe=>by have h1:=hS.tp;rw[e,hS.tu]at h1;simp at h1
 have ne5:(L.s s.id).rb≠(L.s s.id).ob:=λe=>by have h1:=hS.tr;rw[e,hS.tu]at h1;simp at h1
 have h3:=Lib.hid (pair_take w (L.s s.id).pb (L.s s.id).rb L.ob (L.s s.id).ob M.outw s.outw k hS.pair hS.row h.p.outw hS.outw ne1 ne2 ne3 ne4 ne5 H7 H8 hx hy);have g1:=h.outws (M.outw-k);have g2:=g1.1.souts (s:=s) hs (s.outw-k);have H9:=Lib.hid (g1.2.trans g2.2);generalize Hb:((w.setCell ⟨L.ob,0,none⟩ (.int .i64 (M.outw-(k:Int)))).setCell ⟨(L.s s.id).ob,0,none⟩ (.int .i64 (s.outw-(k:Int))))=W2 at*
 have hP:({s with outw:=s.outw-k}:Sv)∈updS M.strs {s with outw:=s.outw-k}:=mem_updS hs rfl;have hQ:=g2.1.p.strs _ hP;have hM:Oz W2 (λg=>ow g= .st s.id 5) (.slice A0 n c0) s.waits:=hF▸hQ.waits;have hE:=hM.rd;have h6:∀W,CN W ow b {M with outw:=M.outw-k,strs:=updS M.strs {s with outw:=s.outw-k}} L->Rd W W.heap.size A0 n s.waits->Calls Tryz.prog 39 #[.pointer (some ⟨b,0,none⟩),.agg #[.int .i64 0,.int .i64 0,.int .i64 (s.id:Nat),.bool fin,.bool false,.bool false,.bool false,.bool false,.bool false,.int .i64 0,.int .i64 0,.int .i64 0,.int .i64 0,.int .i64 0,.int .i64 0,.int .i64 0,.slice none 0 0,.slice A0 k c0]] W (CPostL W ow b L {M with outw:=M.outw-k,strs:=updS M.strs {s with outw:=s.outw-k},out:=M.out++frameB 0 (if fin then 1 else 0) s.id (s.waits.take k)} (.tuple #[])):=by
  intro W Hc He;have h6:=put_anyL W ow b _ L {typ:=0,stream:=s.id,endd:=fin,data:=s.waits.take k} _ Hc rfl (bld_data W s.id fin A0 k c0 W.heap.size (s.waits.take k) (He.head hj) (Nat.le_refl _) (by omega) (by omega) hid.2) ho;rw[infC_data,flg_data,show pay {typ:=0,stream:=s.id,endd:=fin,data:=s.waits.take k}=s.waits.take k from rfl]at h6;exact h6
 have h4:=Lib.hid (h6 W2 g2.1 hE);have h5:=Lib.hid (h6 W2.drew g2.1.drew hE);have HH:=Lib.hid (show _/\_/\_/\_/\_/\_/\_/\_ from⟨hs,hu,hid,hh,hn,hj,hO,H5⟩);have HA:=Lib.hid hF;have hG:=Lib.hid hP;have hR:=hS.blk;have hb:=hQ.blk;have d6:w.cell? ⟨(L.s s.id).sb,6,none⟩=some (.slice A0 n c0):=hF▸hR.cell 6;have d5:w.cell? ⟨(L.s s.id).sb,5,none⟩=some (.pointer (some ⟨(L.s s.id).pb,0,none⟩)):=hR.cell 5;have e0:W2.cell? ⟨(L.s s.id).sb,0,none⟩=some (.int .i64 (s.id:Nat)):=hb.cell 0;have e1:W2.cell? ⟨(L.s s.id).sb,1,none⟩=some (.int .i64 2):=by have e:W2.cell? ⟨(L.s s.id).sb,1,none⟩=some (.int .i64 (s.own:Nat)):=hb.cell 1;rw[hL]at e;exact e
 have e6:W2.cell? ⟨(L.s s.id).sb,6,none⟩=some (.slice A0 n c0):=hF▸hb.cell 6;have e7:W2.cell? ⟨(L.s s.id).sb,7,none⟩=some (.bool false):=by have e:W2.cell? ⟨(L.s s.id).sb,7,none⟩=some (.bool s.trails):=hb.cell 7;rw[H4]at e;exact e
 have k0:((k:Int)=0)=False:=by simp;omega
 have k0':(k=0)=False:=by simp;omega
 have kn:((0:Int)<(n:Int))=True:=by simp;omega
 have kn':(0<n)=True:=by simp;omega
 have kc:((k:Int)<=(c0:Int))=True:=by simp;omega
 have kc':(k<=c0)=True:=by simp;omega
 have hI:=Lib.hid (show W2.cell? ⟨(L.s s.id).sb,0,none⟩=some (.int .i64 (s.id:Nat))/\W2.cell? ⟨(L.s s.id).sb,6,none⟩=some (.slice A0 n c0)from⟨e0,e6⟩);have hc:=Lib.hid (show W2.drew.cell? ⟨(L.s s.id).sb,0,none⟩=some (.int .i64 (s.id:Nat))/\W2.drew.cell? ⟨(L.s s.id).sb,6,none⟩=some (.slice A0 n c0)from⟨e0,e6⟩);have k00:((k:Int)==0)=false:=by simp;omega
 obtain⟨A5,hT⟩:∃A5,(if c0=k then A0 else A0.map λx=>x.add k)=A5:=⟨_,rfl⟩;obtain⟨n5,hU⟩:∃n5,n-k=n5:=⟨_,rfl⟩;obtain⟨c5,hl⟩:∃c5,c0-k=c5:=⟨_,rfl⟩;have hcut:=run_from (P:=Tryz.prog) byteP A0 n c0 k hj hO;rw[hT,hU,hl]at hcut;have h7:=Lib.hid (show _/\_/\_ from⟨hT,hU,hl⟩);clear hT hU hl;have hN:(fin=true/\k=n)\/(fin=false/\((k:Int)==(n:Int))=false/\((k:Int)=(n:Int))=False/\(k=n)=False):=by
  rw[hfin];by_cases e:k=n
  · exact .inl ⟨decide_eq_true e,e⟩
  · exact .inr ⟨decide_eq_false e,by simp;omega,by simp;omega,by simp;omega⟩
 obtain⟨sb,hV⟩:∃g,(L.s s.id).sb=g:=⟨_,rfl⟩;have hH:=Lib.hid hV;rw[hV]at d6 d5 e0 e1 e6 e7 hI hc ⊢;clear h hs hu hid hL H4 hh hn H5 hk h0 hfin hx hy ho Ha H7 H8 hS hj H2 H3 hF hO ne1 ne2 ne3 ne4 ne5 g1 g2 Hb hP hQ hM hE h6 hR hb hV;rcases hN with⟨rfl,rfl⟩|⟨rfl,kn1,kn2,kn3⟩
 · go_enter Tryz.func43,Tryz.ntmps43
   go_wp2_with fail;refine h2.out.mono ?_;rintro e w1 ⟨rfl,hw⟩;subst w1;go_wp2_with fail;refine h3.out.mono ?_;rintro e w1 ⟨rfl,hw⟩;subst w1;clear d5 d6;go_upto_region 7 with fail;go_region_held3 (λW'=>W'.cell? ⟨sb,0,none⟩=some (.int .i64 (s.id:Nat))/\W'.cell? ⟨sb,6,none⟩=some (.slice A0 k c0)) (first|with_reducible exact hI.out|with_reducible exact hc.out|with_reducible exact hd.out) (first
    |(go_at_call 39
      first|with_reducible refine Calls.mono h4.out ?_|with_reducible refine Calls.mono h5.out ?_
      rintro e w3 ⟨ow3,L3,rfl,hi,hm,h8⟩;have he:=H9.out.trans (show Fr W2 ow w3 ow3 from by first|exact hm|exact(Fr.drewN W2 ow 1).trans hm);have hW:=Lib.hid he;have hX:=Lib.hid hi;have hJ:=Lib.hid h8;have h9:=(hi.p.strs _ hG.out).blk;have hq:=(hi.p.strs _ hG.out).waits;rw[show(L3.s ({s with outw:=s.outw-k}:Sv).id).waits= .slice A0 k c0 from by rw[h8];exact HA.out]at hq;rw[show(L3.s ({s with outw:=s.outw-k}:Sv).id).sb=sb from by rw[h8];exact hH.out]at h9;have hY:=Lib.hid hq;have x0:w3.cell? ⟨sb,0,none⟩=some (.int .i64 (s.id:Nat)):=h9.cell 0;have x6:w3.cell? ⟨sb,6,none⟩=some (L3.s s.id).waits:=h9.cell 6;rw[h8,HA.out]at x6;have xf6:=h9.frozen 6;have hd:=Lib.hid (show w3.cell? ⟨sb,0,none⟩=some (.int .i64 (s.id:Nat))/\w3.cell? ⟨sb,6,none⟩=some (.slice A0 k c0)from⟨x0,x6⟩);clear hi hm he h8 h9 hq)
    |fail)
   clear x0 hd h4 h5 hI hc h2 h3;have ht:=hY.out.cut (k:=k) HH.out.2.2.2.2.2.1;rw[h7.out.1,h7.out.2.1,h7.out.2.2]at ht;obtain⟨ow4,L4,hA,hC,hK⟩:=hX.out.waitsAre hG.out ht;rw[show(L3.s ({s with outw:=s.outw-k}:Sv).id).sb=sb from by rw[hJ.out];exact hH.out]at hA hC;have e2:=updS_two M.strs (s1:={s with outw:=s.outw-k}) (s2:=goneS s k) rfl;have e4:(L4.s (goneS s k).id).sb=sb:=(hK s.id).trans (by rw[hJ.out];exact hH.out);generalize Hg:w3.setCell ⟨sb,6,none⟩ (.slice A5 n5 c5)=W4 at*
   have hf:CN W4 ow4 b (goneC M s k true) L4:=(congrArg (λl=>CN W4 ow4 b ({goneC M s k true with strs:=l}:Cv) L4) e2).mp hA;have hD:=finishes_any W4 ow4 b (goneC M s k true) L4 (goneS s k) true hf (mem_updS HH.out.1 rfl) HH.out.2.2.2.1 HH.out.2.2.1.2 (by show((updS M.strs (goneS s k)).map (·.id)).Nodup;rw[updS_ids];exact HH.out.2.1);rw[e4]at hD;have hZ:=Lib.hid hD;have H0:=Lib.hid (hW.out.trans hC);clear ht hA hC hK e2 e4 hf hD;go_wp2_with fail;refine hZ.out.mono ?_;intro e w5 hp;obtain rfl:=hp.ret;have HQ:=Lib.hid (hp.trans H0.out);clear hp;go_wp2;go_ret;obtain⟨ow5,L5,_,hl,H1⟩:=HQ.out;exact⟨ow5,L5,rfl,hl,H1⟩
 · go_enter Tryz.func43,Tryz.ntmps43
   go_wp2_with fail;refine h2.out.mono ?_;rintro e w1 ⟨rfl,hw⟩;subst w1;go_wp2_with fail;refine h3.out.mono ?_;rintro e w1 ⟨rfl,hw⟩;subst w1;clear d5 d6;go_upto_region 7 with fail;go_region_held3 (λW'=>W'.cell? ⟨sb,0,none⟩=some (.int .i64 (s.id:Nat))/\W'.cell? ⟨sb,6,none⟩=some (.slice A0 n c0)) (first|with_reducible exact hI.out|with_reducible exact hc.out|with_reducible exact hd.out) (first
    |(go_at_call 39
      first|with_reducible refine Calls.mono h4.out ?_|with_reducible refine Calls.mono h5.out ?_
      rintro e w3 ⟨ow3,L3,rfl,hi,hm,h8⟩;have he:=H9.out.trans (show Fr W2 ow w3 ow3 from by first|exact hm|exact(Fr.drewN W2 ow 1).trans hm);have hW:=Lib.hid he;have hX:=Lib.hid hi;have hJ:=Lib.hid h8;have h9:=(hi.p.strs _ hG.out).blk;have hq:=(hi.p.strs _ hG.out).waits;rw[show(L3.s ({s with outw:=s.outw-k}:Sv).id).waits= .slice A0 n c0 from by rw[h8];exact HA.out]at hq;rw[show(L3.s ({s with outw:=s.outw-k}:Sv).id).sb=sb from by rw[h8];exact hH.out]at h9;have hY:=Lib.hid hq;have x0:w3.cell? ⟨sb,0,none⟩=some (.int .i64 (s.id:Nat)):=h9.cell 0;have x6:w3.cell? ⟨sb,6,none⟩=some (L3.s s.id).waits:=h9.cell 6;rw[h8,HA.out]at x6;have xf6:=h9.frozen 6;have hd:=Lib.hid (show w3.cell? ⟨sb,0,none⟩=some (.int .i64 (s.id:Nat))/\w3.cell? ⟨sb,6,none⟩=some (.slice A0 n c0)from⟨x0,x6⟩);clear hi hm he h8 h9 hq)
    |fail)
   clear x0 hd h4 h5 hI hc h2 h3;have ht:=hY.out.cut (k:=k) HH.out.2.2.2.2.2.1;rw[h7.out.1,h7.out.2.1,h7.out.2.2]at ht;obtain⟨ow4,L4,hA,hC,hK⟩:=hX.out.waitsAre hG.out ht;rw[show(L3.s ({s with outw:=s.outw-k}:Sv).id).sb=sb from by rw[hJ.out];exact hH.out]at hA hC;have e2:=updS_two M.strs (s1:={s with outw:=s.outw-k}) (s2:=goneS s k) rfl;have e4:(L4.s (goneS s k).id).sb=sb:=(hK s.id).trans (by rw[hJ.out];exact hH.out);generalize Hg:w3.setCell ⟨sb,6,none⟩ (.slice A5 n5 c5)=W4 at*
   have hf:CN W4 ow4 b (goneC M s k false) L4:=(congrArg (λl=>CN W4 ow4 b ({goneC M s k false with strs:=l}:Cv) L4) e2).mp hA;have hD:=finishes_any W4 ow4 b (goneC M s k false) L4 (goneS s k) false hf (mem_updS HH.out.1 rfl) HH.out.2.2.2.1 HH.out.2.2.1.2 (by show((updS M.strs (goneS s k)).map (·.id)).Nodup;rw[updS_ids];exact HH.out.2.1);rw[e4]at hD;have hZ:=Lib.hid hD;have H0:=Lib.hid (hW.out.trans hC);clear ht hA hC hK e2 e4 hf hD;go_wp2_with fail;refine hZ.out.mono ?_;intro e w5 hp;obtain rfl:=hp.ret;have HQ:=Lib.hid (hp.trans H0.out);clear hp;go_wp2;go_ret;obtain⟨ow5,L5,_,hl,H1⟩:=HQ.out;exact⟨ow5,L5,rfl,hl,H1⟩
end Go.Proofs.YtkpppjhbmnfmkaaGreatDoor
end

section
set_option maxHeartbeats 8000000
set_option maxRecDepth 100000
namespace Go.Proofs.YtkpppjhbmnfmkaaGreatDoor
open Go.RowKit Go.Own Go.Own.Im Go.Own.Cx Go.Own.Fr
def endedC (M:Cv) (s:Sv):Cv:={M with out:=M.out++frameB 0 1 s.id []}
theorem sends_end (w:World) (ow:Nat->Tg) (b:Nat) (M:Cv) (L:Lay) (s:Sv) (h:CN w ow b M L) (hs:s∈M.strs) (hu:(M.strs.map (·.id)).Nodup) (hid:0<s.id/\s.id<=2147483647) (h2:s.own=2) (h9:s.trails=false) (hh:s.held=0) (hn:s.waits=[]) (ho:M.out.length<=1000000000):
 Calls Tryz.prog 43 #[.pointer (some ⟨b,0,none⟩),.pointer (some ⟨(L.s s.id).sb,0,none⟩)] w (CPost w ow b (finM (endedC M s) s true) (.bool true)):=by
 have hS:=h.p.strs s hs;obtain⟨A0,c0,h4,he,h7⟩:=hS.waits.form;rw[hn]at h4;have h1:=hS.blk;have h3:(L.s s.id).waits= .slice A0 0 c0:=h4;have d6:w.cell? ⟨(L.s s.id).sb,6,none⟩=some (.slice A0 0 c0):=h3▸h1.cell 6;have d0:w.cell? ⟨(L.s s.id).sb,0,none⟩=some (.int .i64 (s.id:Nat)):=h1.cell 0;have d1:w.cell? ⟨(L.s s.id).sb,1,none⟩=some (.int .i64 2):=by have e:w.cell? ⟨(L.s s.id).sb,1,none⟩=some (.int .i64 (s.own:Nat)):=h1.cell 1;rw[h2]at e;exact e
 have d7:w.cell? ⟨(L.s s.id).sb,7,none⟩=some (.bool false):=by have e:w.cell? ⟨(L.s s.id).sb,7,none⟩=some (.bool s.trails):=h1.cell 7;rw[h9]at e;exact e
 have h0:=put_anyL w ow b M L {typ:=0,stream:=s.id,endd:=true,data:=[]} _ h rfl (bld_data w s.id true none 0 0 w.heap.size [] (rd_nil0 w _) (Nat.le_refl _) (by decide) (by omega) hid.2) ho;rw[infC_data,flg_data,show pay {typ:=0,stream:=s.id,endd:=true,data:=[]}=[]from rfl]at h0;have h8:=Lib.hid h0;have HH:=Lib.hid (show _/\_/\_/\_ from⟨hs,hu,hid,hh⟩);obtain⟨sb,h5⟩:∃g,(L.s s.id).sb=g:=⟨_,rfl⟩;have hf:=Lib.hid h5;rw[h5]at d6 d0 d1 d7 ⊢;clear h hs hu hid h2 h9 hh hn ho hS h4 h3 he h7 h1 h0 h5;go_enter Tryz.func43,Tryz.ntmps43;go_wp2_with fail;refine h8.out.mono ?_;rintro e w3 ⟨ow3,L3,rfl,hb,hc,hd⟩;have h6:=finishes_any w3 ow3 b (endedC M s) L3 s true hb HH.out.1 HH.out.2.2.2 HH.out.2.2.1.2 HH.out.2.1;rw[show(L3.s s.id).sb=sb from by rw[hd];exact hf.out]at h6;have hi:=Lib.hid h6;have hj:=Lib.hid hc;clear hb hc hd h6 d6 d0 d1 d7;go_wp2_with fail;refine hi.out.mono ?_;intro e w5 hp;obtain rfl:=hp.ret;have HQ:=Lib.hid (hp.trans hj.out);clear hp;go_wp2;go_ret;obtain⟨ow5,L5,_,hk,hl⟩:=HQ.out;exact⟨ow5,L5,rfl,hk,hl⟩
end Go.Proofs.YtkpppjhbmnfmkaaGreatDoor
end

section
set_option maxHeartbeats 8000000
set_option maxRecDepth 100000
namespace Go.Proofs.YtkpppjhbmnfmkaaGreatDoor
open Go.RowKit Go.Own Go.Own.Im Go.Own.Cx Go.Own.Fr
def SdT (M M':Cv) (r:Bool):Prop:=∀w ow b L s,CN w ow b M L->M.strs=[s]->Calls Tryz.prog 43 #[.pointer (some ⟨b,0,none⟩),.pointer (some ⟨(L.s s.id).sb,0,none⟩)] w (CPost w ow b M' (.bool r))
def OneS (M:Cv):Prop:=M.dead=false/\∃s,M.strs=[s]/\s.id<=2147483647
inductive Snd:Nat->Cv->Cv->Prop
 |stop {M:Cv} (h1:OneS M) (h2:SdT M M false):Snd 0 M M
 |more {n:Nat} {M M1 M2:Cv} (h1:OneS M) (h2:SdT M M1 true) (h3:M.out.length<M1.out.length) (h4:Snd n M1 M2):Snd (n+1) M M2
theorem Snd.le {n:Nat} {M M':Cv} (h:Snd n M M'):M.out.length<=M'.out.length:=by
 induction h with
 |stop=>exact Nat.le_refl _
 |more _ _ h3 _ ih=>omega
theorem Snd.one {n:Nat} {M M':Cv} (h:Snd n M M'):OneS M:=by
 cases h with
 |stop h1=>exact h1
 |more h1=>exact h1
theorem Snd.step {n:Nat} {M M':Cv} (h:Snd n M M'):∃r M1,SdT M M1 r/\((r=false/\M1=M')\/(r=true/\M.out.length<M1.out.length/\∃k,Snd k M1 M'))/\M.out.length<=M1.out.length:=by
 cases h with
 |stop h1 h2=>exact⟨false,_,h2,.inl ⟨rfl,rfl⟩,Nat.le_refl _⟩
 |more h1 h2 h3 h4=>exact⟨true,_,h2,.inr ⟨rfl,h3,_,h4⟩,Nat.le_of_lt h3⟩
def outN (b:Nat) (w:World):Nat:=match w.cell? ⟨b,6,none⟩with|some (.slice _ n _)=>n|_=>0
theorem outN_of {w:World} {ow:Nat->Tg} {b:Nat} {M:Cv} {L:Lay} (h:CN w ow b M L):outN b w=M.out.length:=by
 have c6:w.cell? ⟨b,6,none⟩=some L.out:=h.blk.cell 6;obtain⟨A,c,hL,_⟩:=h.p.out.1.form;rw[hL]at c6;unfold outN;rw[c6]
def SoR (w:World) (ow:Nat->Tg) (b:Nat) (M':Cv) (t:Value) (wr:World):Prop:=
 (t= .bool true/\∃n Mr owr Lr,Snd n Mr M'/\CN wr owr b Mr Lr/\Fr w ow wr owr)\/(t= .bool false/\∃owr Lr,CN wr owr b M' Lr/\Fr w ow wr owr)
def SiR (w:World) (ow:Nat->Tg) (b:Nat) (M1:Cv) (r:Bool) (w1:World) (t3 t16:Value) (wx:World):Prop:=
 (t3= .bool false/\t16= .int .i64 0/\wx=w1)\/(t3= .bool r/\t16= .int .i64 1/\∃ow2 L2,CN wx ow2 b M1 L2/\Fr w ow wx ow2)
def tru (t:Value):Nat:=match t with| .bool true=>1|_=>0
theorem output_sends (w:World) (ow:Nat->Tg) (b:Nat) (M M':Cv) (L:Lay) (n:Nat) (h:CN w ow b M L) (hs:Snd n M M'):
 Calls Tryz.prog 13 #[.pointer (some ⟨b,0,none⟩)] w (OutPost w ow b M'):=by
 have c19:w.cell? ⟨b,19,none⟩=some (.bool false):=by
  have e:w.cell? ⟨b,19,none⟩=some (.bool M.dead):=h.blk.cell 19;rw[hs.one.1]at e;exact e
 have HC:=Lib.hid h;have hF:=Lib.hid hs;clear h hs;go_enter Tryz.func13,Tryz.ntmps13;go_wp2;clear c19;go_loopw [3] (λt wr=>Hid (SoR w ow b M' t wr)) (λt wr=>tru t+(M'.out.length-outN b wr))
 case atStart=>exact .inl ⟨rfl,n,M,ow,L,hF.out,HC.out,Fr.refl w ow⟩
 case round=>
  rcases hrel.out with⟨rfl,nr,Mr,owr,Lr,hd,h5,hf⟩|⟨rfl,owr,Lr,h5,hf⟩
  · clear hrel
    obtain⟨_,s,h4,hid⟩:=hd.one;obtain⟨r,M1,hG,hm,h7⟩:=hd.step;have hn:=Lib.hid (outN_of h5);have hq:=Lib.hid h5;have hh:=Lib.hid hf;have hH:=Lib.hid (ids_any wr owr b Mr Lr h5 (by rw[h4];exact List.pairwise_singleton _ _) (by rw[h4];exact(show 1<=1000000 by decide)));have he:=Lib.hid (show _/\_ from⟨h4,hid⟩);have hI:=Lib.hid (λw ow L hc=>hG w ow b L s hc h4);have ho:=Lib.hid hm;have hJ:=Lib.hid h7;clear hd h5 hf h4 hid hG hm h7;cases r
    · go_wp2_with fail
      refine hH.out.mono ?_;rintro e w1 ⟨v,rfl,h1,h8⟩;rw[he.out.1]at h1;have hcell:∃g c,v= .slice (some ⟨g,0,none⟩) 1 c/\w1.cell? ⟨g,0,none⟩=some (.int .i64 (s.id:Nat)):=by
       rcases h1.2 with⟨e,h0⟩|⟨g,cap,cur,e,_⟩
       · simp at h0
       · refine⟨g,cap,e,?_⟩
         have:=World.ownsRow.cells h1 (g:=g) (by rw[e];rfl) 0 (.int .i64 (s.id:Nat)) (by simp[encZ]);rw[Addr.add_lit,Nat.zero_add]at this;exact this
      obtain⟨g,c1,rfl,hcell⟩:=hcell;have hb:=Lib.hid (hq.out.below h8);have ht:=Lib.hid (hh.out.trans (Fr.below h8 owr));have hu:=Lib.hid hcell;have hi:(Lit.int .i64 (s.id:Int)).wf=true:=by have:=he.out.2;simp[Lit.wf,IntKind.min,IntKind.max,IntKind.bits,IntKind.signed];omega
      have h2:=look_str hb.out (s.id:Int) hi;have hj:strAt Mr (s.id:Int)=some s:=by unfold strAt;rw[he.out.1];simp
      rw[(at_some (L:=Lr) hj).1]at h2;have c15:w1.cell? ⟨b,15,none⟩=some (.map (some Lr.mb)):=hb.out.blk.cell 15;have hl:=Lib.hid (show _/\_ from⟨h2,c15⟩);clear h1 h8 hcell hi hj h2 c15;go_upto_region 5 with fail;go_loopw [3,16] (λt3 t16 wx=>Hid (SiR w ow b M1 false w1 t3 t16 wx)) (λ_ t16 _=>1-(intOf t16).toNat)
      case atStart=>exact .inl ⟨rfl,rfl,rfl⟩
      case round=>
       rcases hrel with⟨rfl,rfl,hM⟩|⟨rfl,rfl,ow2,L2,h3,h6⟩
       · subst wr
         have h2:=hl.out.1;have c15:=hl.out.2;have hw:=hu.out;go_wp2_with fail;refine(hI.out w1 owr Lr hb.out).mono ?_;intro e w2 hp;obtain rfl:=hp.ret;have HP:=Lib.hid hp;clear hp h2 c15 hw;go_wp2_with fail;obtain⟨ow2,L2,_,h3,h6⟩:=HP.out;exact⟨.inr ⟨rfl,rfl,ow2,L2,h3,ht.out.trans h6⟩,by simp[intOf]⟩
       · have hA:=Lib.hid h3
         have hC:=Lib.hid h6;have hD:=Lib.hid (outN_of h3);clear h3 h6;go_wp2_with fail;rw[hn.out,hD.out];have hg:=hJ.out;rcases ho.out with⟨_,e1⟩|⟨e1,_⟩
         · exact⟨.inr ⟨rfl,ow2,L2,e1▸hA.out,hC.out⟩,by simp only[tru];omega⟩
         · cases e1
    · go_wp2_with fail
      refine hH.out.mono ?_;rintro e w1 ⟨v,rfl,h1,h8⟩;rw[he.out.1]at h1;have hcell:∃g c,v= .slice (some ⟨g,0,none⟩) 1 c/\w1.cell? ⟨g,0,none⟩=some (.int .i64 (s.id:Nat)):=by
       rcases h1.2 with⟨e,h0⟩|⟨g,cap,cur,e,_⟩
       · simp at h0
       · refine⟨g,cap,e,?_⟩
         have:=World.ownsRow.cells h1 (g:=g) (by rw[e];rfl) 0 (.int .i64 (s.id:Nat)) (by simp[encZ]);rw[Addr.add_lit,Nat.zero_add]at this;exact this
      obtain⟨g,c1,rfl,hcell⟩:=hcell;have hb:=Lib.hid (hq.out.below h8);have ht:=Lib.hid (hh.out.trans (Fr.below h8 owr));have hu:=Lib.hid hcell;have hi:(Lit.int .i64 (s.id:Int)).wf=true:=by have:=he.out.2;simp[Lit.wf,IntKind.min,IntKind.max,IntKind.bits,IntKind.signed];omega
      have h2:=look_str hb.out (s.id:Int) hi;have hj:strAt Mr (s.id:Int)=some s:=by unfold strAt;rw[he.out.1];simp
      rw[(at_some (L:=Lr) hj).1]at h2;have c15:w1.cell? ⟨b,15,none⟩=some (.map (some Lr.mb)):=hb.out.blk.cell 15;have hl:=Lib.hid (show _/\_ from⟨h2,c15⟩);clear h1 h8 hcell hi hj h2 c15;go_upto_region 5 with fail;go_loopw [3,16] (λt3 t16 wx=>Hid (SiR w ow b M1 true w1 t3 t16 wx)) (λ_ t16 _=>1-(intOf t16).toNat)
      case atStart=>exact .inl ⟨rfl,rfl,rfl⟩
      case round=>
       rcases hrel with⟨rfl,rfl,hM⟩|⟨rfl,rfl,ow2,L2,h3,h6⟩
       · subst wr
         have h2:=hl.out.1;have c15:=hl.out.2;have hw:=hu.out;go_wp2_with fail;refine(hI.out w1 owr Lr hb.out).mono ?_;intro e w2 hp;obtain rfl:=hp.ret;have HP:=Lib.hid hp;clear hp h2 c15 hw;go_wp2_with fail;obtain⟨ow2,L2,_,h3,h6⟩:=HP.out;exact⟨.inr ⟨rfl,rfl,ow2,L2,h3,ht.out.trans h6⟩,by simp[intOf]⟩
       · have hA:=Lib.hid h3
         have hC:=Lib.hid h6;have hD:=Lib.hid (outN_of h3);clear h3 h6;go_wp2_with fail;rw[hn.out,hD.out];have hg:=hJ.out;rcases ho.out with⟨e1,_⟩|⟨_,hK,k,hk⟩
         · cases e1
         · have hE:=hk.le
           exact⟨.inl ⟨rfl,k,M1,ow2,L2,hk,hA.out,hC.out⟩,by simp only[tru];omega⟩
  · have hq:=Lib.hid h5
    have hh:=Lib.hid hf;obtain⟨A,c,hL,hE,_⟩:=h5.p.out.1.form;have HL:=Lib.hid (show _/\_ from⟨hL,hE⟩);have c6:wr.cell? ⟨b,6,none⟩=some Lr.out:=h5.blk.cell 6;rw[hL]at c6;have f6:=h5.blk.frozen 6;clear hrel h5 hf hL hE;go_wp2;go_ret;obtain⟨ow',L',r1,r2,r3,r4⟩:=hq.out.gives HL.out.1;exact⟨A,c,ow',L',rfl,HL.out.2,r4.more (by simp[World.setCell]),λhp ad ha=>⟨(r3 hp ad ha).1,(r3 hp ad ha).2.1,λhx=>Nat.le_of_not_lt λhK=>by have h9:=hh.out.no _ hK hx;rw[(r3 hp ad ha).2.2]at h9;cases h9⟩,r1,hh.out.trans r2⟩
end Go.Proofs.YtkpppjhbmnfmkaaGreatDoor
end

section
namespace Go.Proofs.YtkpppjhbmnfmkaaGreatDoor
open Go.RowKit Go.Own Go.Own.Im Go.Own.Cx Go.Own.Fr
def pS (s:Sv) (k:Nat):Sv:={s with outw:=s.outw-k,waits:=s.waits.drop k,own:=if k=s.waits.length then 3 else 2}
def pM (M:Cv) (s:Sv) (k:Nat) (F:List Fm):Cv:={M with outw:=M.outw-k,strs:=[pS s k],out:=M.out++fmsB F}
structure Rdy (M:Cv) (s:Sv):Prop where
 strs:M.strs=[s]
 dead:M.dead=false
 id:0<s.id/\s.id<=2147483647
 own:s.own=2
 trails:s.trails=false
 held:s.held=0
 other:s.other≠3
theorem upd_one (s s':Sv) (h:s.id=s'.id):updS [s] s'=[s']:=by
 show[if s.id=s'.id then s' else s]=_;rw[if_pos h]
theorem one_eq {M:Cv} {s s':Sv} (h:M.strs=[s]) (h':M.strs=[s']):s'=s:=by
 rw[h]at h';injection h' with h'
 exact h'.symm
theorem stop_still {M:Cv} {s:Sv} (h:M.strs=[s]) (hd:M.dead=false) (hid:s.id<=2147483647) (hs:Still s):Snd 0 M M:=
 .stop ⟨hd,s,h,hid⟩ λw ow b L s' hc h0=>by
  obtain rfl:=one_eq h h0;exact(sends_still w ow L.ob (L.s s'.id) s' _ (hc.p.strs s' (by rw[h0];exact List.mem_singleton.2 rfl)) hs).mono λe w' ⟨he,hw⟩=>⟨ow,L,he,by rw[hw];exact hc,by rw[hw];exact Fr.refl w ow⟩
theorem ndp {M:Cv} {s:Sv} (h:M.strs=[s]):(M.strs.map (·.id)).Nodup:=by rw[h];simp
end Go.Proofs.YtkpppjhbmnfmkaaGreatDoor
end
