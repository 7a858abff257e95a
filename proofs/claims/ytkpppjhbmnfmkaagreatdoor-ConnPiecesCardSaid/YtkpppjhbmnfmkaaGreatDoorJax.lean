/-
  
  
  
  
-/
import Derived.Test.YtkpppjhbmnfmkaaGreatDoorJaw
import Derived.BigQuiet
import Derived.Test.YtkpppjhbmnfmkaaGreatDoorJac
import Derived.Test.YtkpppjhbmnfmkaaGreatDoorJal
import Derived.Test.YtkpppjhbmnfmkaaGreatDoorJaj
set_option linter.unusedSimpArgs false
set_option linter.unusedVariables false
section
namespace Go.Proofs.YtkpppjhbmnfmkaaGreatDoor
open Go.RowKit Go.Own Go.Own.Im Go.Own.Cx Go.Own.Fr
section
variable {w:World} {ow:Nat->Tg} {b:Nat} {M:Cv} {L:Lay} {a:Addr}
end
end Go.Proofs.YtkpppjhbmnfmkaaGreatDoor
end

section
namespace Go.Proofs.YtkpppjhbmnfmkaaGreatDoor
open Go.RowKit Go.Own Go.Own.Im Go.Own.Cx Go.Own.Fr
section
variable {w:World} {ow:Nat->Tg} {b:Nat} {M:Cv} {L:Lay} {a:Addr}
end
end Go.Proofs.YtkpppjhbmnfmkaaGreatDoor
end

section
namespace Go.Proofs.YtkpppjhbmnfmkaaGreatDoor
open Go.RowKit Go.Own Go.Own.Im Go.Own.Cx Go.Own.Fr
section
variable {wA w8:World} {ow:Nat->Tg} {b:Nat} {M:Cv} {L:Lay} {row:Option Nat}
end
section
variable {w:World} {ow:Nat->Tg} {b:Nat} {M:Cv} {L:Lay} {a:Addr}
end
end Go.Proofs.YtkpppjhbmnfmkaaGreatDoor
end

section
set_option maxHeartbeats 4000000
set_option maxRecDepth 100000
namespace Go.Proofs.YtkpppjhbmnfmkaaGreatDoor
open Go.RowKit Go.Own Go.Own.Im Go.Own.Cx Go.Own.Fr
section
variable {w:World} {ow:Nat->Tg} {b:Nat} {M:Cv} {L:Lay}
theorem CN.inws (h:CN w ow b M L) (v:Int):CN (w.setCell ⟨L.ib,0,none⟩ (.int .i64 v)) ow b {M with inw:=v} L/\Fr w ow (w.setCell ⟨L.ib,0,none⟩ (.int .i64 v)) ow:=by
 have hsz:(w.setCell ⟨L.ib,0,none⟩ (.int .i64 v)).heap.size=w.heap.size:=by simp[World.setCell]
 have k:Kp (λx=>x= .inw) w ow (w.setCell ⟨L.ib,0,none⟩ (.int .i64 v)) ow:=
  ⟨by omega,λg _ ht _=>⟨Below.heap_setCell w _ _ g (λe=>ht (by rw[e];exact h.p.ti)),rfl⟩⟩
 have h0:=h.blkK k (by decide);have hi:Blk (w.setCell ⟨L.ib,0,none⟩ (.int .i64 v)) L.ib 177 #[.int .i64 v]:=h.p.inw.put 0 (.int .i64 v);refine⟨⟨h0.1,h0.2,⟨h.p.fedK k (by decide),h.p.outK k (by decide),h.p.evK k (by decide) (by decide),hi,h.p.ti,(h.p.outwK k (by decide)).1,(h.p.outwK k (by decide)).2,(h.p.mapK k (by decide)).1,(h.p.mapK k (by decide)).2,λs hs=>h.p.strK k s hs (by intro j;simp),h.p.lstK k (by decide) (by decide),h.p.encK k (by decide),h.p.decK k (by decide)⟩,λg hg=>h.new g (by omega)⟩,?_⟩;exact Fr.grown (grown_setCell (World.grownBy.refl w (some L.ib)) 0 _) λg e=>by injection e with e;subst e;rw[h.p.ti];decide
theorem CN.sins (h:CN w ow b M L) {s:Sv} (hs:s∈M.strs) (v:Int):CN (w.setCell ⟨(L.s s.id).ib,0,none⟩ (.int .i64 v)) ow b {M with strs:=updS M.strs {s with inw:=v}} L/\Fr w ow (w.setCell ⟨(L.s s.id).ib,0,none⟩ (.int .i64 v)) ow:=by
 have hS:=h.p.strs s hs;have hsz:(w.setCell ⟨(L.s s.id).ib,0,none⟩ (.int .i64 v)).heap.size=w.heap.size:=by simp[World.setCell]
 have k:Kp (λx=>x= .st s.id 1) w ow (w.setCell ⟨(L.s s.id).ib,0,none⟩ (.int .i64 v)) ow:=
  ⟨by omega,λg _ ht _=>⟨Below.heap_setCell w _ _ g (λe=>ht (by rw[e];exact hS.ti)),rfl⟩⟩
 have h0:=h.blkK k (by simp);have hi:Blk (w.setCell ⟨(L.s s.id).ib,0,none⟩ (.int .i64 v)) (L.s s.id).ib 177 #[.int .i64 v]:=hS.inw.put 0 (.int .i64 v);have h1:∀x∈updS M.strs {s with inw:=v},SN (w.setCell ⟨(L.s s.id).ib,0,none⟩ (.int .i64 v)) ow L.ob (L.s x.id) x:=by
  intro x hx;obtain⟨y,hy,rfl⟩:=List.mem_map.1 hx;by_cases e:y.id=s.id
  · rw[if_pos e]
    exact⟨(k.at_ (.st s.id 0) (by simp) (by simp) _ hS.tb hS.blk.lt).1.trans hS.blk,hS.tb,hi,hS.ti,(k.at_ (.st s.id 2) (by simp) (by simp) _ hS.tu hS.outw.lt).1.trans hS.outw,hS.tu,(k.at_ (.st s.id 3) (by simp) (by simp) _ hS.tp hS.pair.lt).1.trans hS.pair,hS.tp,
     (k.at_ (.st s.id 4) (by simp) (by simp) _ hS.tr hS.row.lt).1.trans hS.row,hS.tr,hS.waits.turn (λg h2 ho=>k.at_ (.st s.id 5) (by simp) (by simp) g ho h2) k.size⟩
  · rw[if_neg e]
    exact h.p.strK k y hy (by intro j;simp;intro e2;exact absurd e2 e)
 refine⟨⟨h0.1,h0.2,⟨h.p.fedK k (by simp),h.p.outK k (by simp),h.p.evK k (by simp) (by simp),(h.p.inwK k (by simp)).1,(h.p.inwK k (by simp)).2,(h.p.outwK k (by simp)).1,(h.p.outwK k (by simp)).2,?_,(h.p.mapK k (by simp)).2,h1,h.p.lstK k (by simp) (by simp),h.p.encK k (by simp),h.p.decK k (by simp)⟩,λg hg=>h.new g (by omega)⟩,?_⟩
 · show SM _ _ _ _ ((updS M.strs {s with inw:=v}).map (·.id)) _
   rw[updS_ids];exact(h.p.mapK k (by simp)).1
 · exact Fr.grown (grown_setCell (World.grownBy.refl w (some (L.s s.id).ib)) 0 _) λg e=>by injection e with e;subst e;rw[hS.ti];simp
end
theorem infC_win (s n:Nat):infC {typ:=8,stream:=s,inc:=n} (.slice none 0 0) (.slice none 0 0)= #[.int .i64 8,.int .i64 0,.int .i64 (s:Nat),.bool false,.bool false,.bool false,.bool false,.bool false,.bool false,.int .i64 0,.int .i64 0,.int .i64 0,.int .i64 0,.int .i64 0,.int .i64 (n:Nat),.int .i64 0,.slice none 0 0,.slice none 0 0]:=rfl
theorem flg_win (s n:Nat):flg {typ:=8,stream:=s,inc:=n}=0:=by simp[flg]
theorem pay_win (s n:Nat):pay {typ:=8,stream:=s,inc:=n}=be n 4:=by simp[pay]
theorem gives_conn (w:World) (ow:Nat->Tg) (b:Nat) (M:Cv) (L:Lay) (n:Nat) (h:CN w ow b M L) (h0:0<n) (hn:n<=2147483647) (ha: -2147483647<=M.inw/\M.inw<=2147483647) (hs:M.inw+n<=2147483647) (ho:M.out.length<=1000000000):
 Calls Tryz.prog 147 #[.pointer (some ⟨b,0,none⟩),.int .i64 0,.int .i64 (n:Nat)] w (CPostL w ow b L {M with inw:=M.inw+n,out:=M.out++frameB 8 0 0 (be n 4)} (.tuple #[])):=by
 have hg:=h.inws (M.inw+n);have HG:=Lib.hid (give_yes w L.ib M.inw n h.p.inw ha h0 hs hn);have HP:=put_anyL _ ow b _ L _ _ hg.1 rfl (bld_win _ 0 n h0 hn (by decide)) ho;rw[infC_win,flg_win,pay_win]at HP;have HP:=Lib.hid HP;have HF:=Lib.hid hg.2;have c8:w.cell? ⟨b,8,none⟩=some (.pointer (some ⟨L.ib,0,none⟩)):=h.blk.cell 8;have k0:((n:Int)==0)=false:=by simp;omega
 have k0':((n:Int)=0)=False:=by simp;omega
 clear hg h ha hs hn h0 ho;go_enter Tryz.func147,Tryz.ntmps147;go_wp2_with fail;refine HG.out.mono ?_;rintro e w1 ⟨rfl,rfl⟩;go_wp2_with fail;refine HP.out.mono ?_;rintro e w2 ⟨ow2,L2,rfl,h1,h2,h3⟩;have HQ:=Lib.hid (show _/\_/\_ from⟨h1,h2,h3⟩);clear h1 h2 h3;go_wp2;go_end0;exact⟨ow2,L2,rfl,HQ.out.1,HF.out.trans HQ.out.2.1,HQ.out.2.2⟩
theorem gives_str (w:World) (ow:Nat->Tg) (b:Nat) (M:Cv) (L:Lay) (s:Sv) (n:Nat) (h:CN w ow b M L) (h3:strAt M (s.id:Int)=some s) (hid:0<s.id/\s.id<=2147483647) (h0:0<n) (hn:n<=2147483647) (ha: -2147483647<=s.inw/\s.inw<=2147483647) (hs:s.inw+n<=2147483647) (ho:M.out.length<=1000000000):
 Calls Tryz.prog 147 #[.pointer (some ⟨b,0,none⟩),.int .i64 (s.id:Nat),.int .i64 (n:Nat)] w (CPostL w ow b L {M with strs:=updS M.strs {s with inw:=s.inw+n},out:=M.out++frameB 8 0 s.id (be n 4)} (.tuple #[])):=by
 obtain⟨h1,h2,_⟩:=at_some (L:=L) h3;have hS:=h.p.strs s h2;have hg:=h.sins h2 (s.inw+n);have HG:=Lib.hid (give_yes w (L.s s.id).ib s.inw n hS.inw ha h0 hs hn);have HP:=put_anyL _ ow b _ L _ _ hg.1 rfl (bld_win _ s.id n h0 hn hid.2) ho;rw[infC_win,flg_win,pay_win]at HP;have HP:=Lib.hid HP;have HF:=Lib.hid hg.2;have hw:(Lit.int .i64 (s.id:Int)).wf=true:=by simp[Lit.wf,IntKind.min,IntKind.max,IntKind.bits,IntKind.signed];omega
 have c8:w.cell? ⟨b,8,none⟩=some (.pointer (some ⟨L.ib,0,none⟩)):=h.blk.cell 8;have c15:w.cell? ⟨b,15,none⟩=some (.map (some L.mb)):=h.blk.cell 15;have h7:=look_str h (s.id:Int) hw;rw[h1]at h7;have d3:w.cell? ⟨(L.s s.id).sb,3,none⟩=some (.pointer (some ⟨(L.s s.id).ib,0,none⟩)):=hS.blk.cell 3;have k0:((n:Int)==0)=false:=by simp;omega
 have k0':((n:Int)=0)=False:=by simp;omega
 have k1:((0:Int)<(s.id:Int))=True:=by simp;omega
 have k1':(0<s.id)=True:=by simp;omega
 clear hg h ha hs hn h0 ho hS h3 h1 h2 hid hw;go_enter Tryz.func147,Tryz.ntmps147;go_wp2_with fail;refine HG.out.mono ?_;rintro e w1 ⟨rfl,rfl⟩;go_wp2_with fail;refine HP.out.mono ?_;rintro e w2 ⟨ow2,L2,rfl,h4,h5,h6⟩;have HQ:=Lib.hid (show _/\_/\_ from⟨h4,h5,h6⟩);clear h4 h5 h6;go_wp2;go_end0;exact⟨ow2,L2,rfl,HQ.out.1,HF.out.trans HQ.out.2.1,HQ.out.2.2⟩
end Go.Proofs.YtkpppjhbmnfmkaaGreatDoor
end
