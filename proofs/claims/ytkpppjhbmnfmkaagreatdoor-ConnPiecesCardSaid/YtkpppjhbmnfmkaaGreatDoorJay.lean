/-
  
  
  
-/
import Derived.Test.YtkpppjhbmnfmkaaGreatDoorJax
import Derived.Deep.RegionLaw
import Derived.Test.YtkpppjhbmnfmkaaGreatDoorJam
import Derived.Test.YtkpppjhbmnfmkaaGreatDoorJan
import Derived.Test.YtkpppjhbmnfmkaaGreatDoorJau
import Derived.Test.YtkpppjhbmnfmkaaGreatDoorJaw
import Derived.Deep.RegionHeld3
set_option linter.unusedSimpArgs false
set_option linter.unusedVariables false
section
namespace Go.Proofs.YtkpppjhbmnfmkaaGreatDoor
open Go.RowKit Go.Own Go.Own.Im Go.Own.Cx Go.Own.Fr
attribute [local go_sem] Oper.semAt_some
theorem updS_two (l:List Sv) {s1 s2:Sv} (e:s2.id=s1.id):updS (updS l s1) s2=updS l s2:=by
 unfold updS;rw[List.map_map];refine List.map_congr_left λx _=>?_;show(if(if x.id=s1.id then s1 else x).id=s2.id then s2 else if x.id=s1.id then s1 else x)=_;by_cases h:x.id=s1.id
 · rw[if_pos h,if_pos e.symm,if_pos (h.trans e.symm)]
 · rw[if_neg h]
theorem mem_updS {l:List Sv} {s s':Sv} (hs:s∈l) (e:s.id=s'.id):s'∈updS l s':=List.mem_map.2 ⟨s,hs,by simp[e]⟩
end Go.Proofs.YtkpppjhbmnfmkaaGreatDoor
end

section
namespace Go.Proofs.YtkpppjhbmnfmkaaGreatDoor
open Go.RowKit Go.Own Go.Own.Im Go.Own.Cx Go.Own.Fr
section
variable {w:World} {ow:Nat->Tg} {b:Nat} {M:Cv} {L:Lay}
theorem CN.souts (h:CN w ow b M L) {s:Sv} (hs:s∈M.strs) (v:Int):CN (w.setCell ⟨(L.s s.id).ob,0,none⟩ (.int .i64 v)) ow b {M with strs:=updS M.strs {s with outw:=v}} L/\Fr w ow (w.setCell ⟨(L.s s.id).ob,0,none⟩ (.int .i64 v)) ow:=by
 have hS:=h.p.strs s hs;have hsz:(w.setCell ⟨(L.s s.id).ob,0,none⟩ (.int .i64 v)).heap.size=w.heap.size:=by simp[World.setCell]
 have k:Kp (λx=>x= .st s.id 2) w ow (w.setCell ⟨(L.s s.id).ob,0,none⟩ (.int .i64 v)) ow:=
  ⟨by omega,λg _ ht _=>⟨Below.heap_setCell w _ _ g (λe=>ht (by rw[e];exact hS.tu)),rfl⟩⟩
 have h0:=h.blkK k (by simp);have hi:Blk (w.setCell ⟨(L.s s.id).ob,0,none⟩ (.int .i64 v)) (L.s s.id).ob 177 #[.int .i64 v]:=hS.outw.put 0 (.int .i64 v);have h1:∀x∈updS M.strs {s with outw:=v},SN (w.setCell ⟨(L.s s.id).ob,0,none⟩ (.int .i64 v)) ow L.ob (L.s x.id) x:=by
  intro x hx;obtain⟨y,hy,rfl⟩:=List.mem_map.1 hx;by_cases e:y.id=s.id
  · rw[if_pos e]
    exact⟨(k.at_ (.st s.id 0) (by simp) (by simp) _ hS.tb hS.blk.lt).1.trans hS.blk,hS.tb,(k.at_ (.st s.id 1) (by simp) (by simp) _ hS.ti hS.inw.lt).1.trans hS.inw,hS.ti,hi,hS.tu,(k.at_ (.st s.id 3) (by simp) (by simp) _ hS.tp hS.pair.lt).1.trans hS.pair,hS.tp,
     (k.at_ (.st s.id 4) (by simp) (by simp) _ hS.tr hS.row.lt).1.trans hS.row,hS.tr,hS.waits.turn (λg h2 ho=>k.at_ (.st s.id 5) (by simp) (by simp) g ho h2) k.size⟩
  · rw[if_neg e]
    exact h.p.strK k y hy (by intro j;simp;intro e2;exact absurd e2 e)
 refine⟨⟨h0.1,h0.2,⟨h.p.fedK k (by simp),h.p.outK k (by simp),h.p.evK k (by simp) (by simp),(h.p.inwK k (by simp)).1,(h.p.inwK k (by simp)).2,(h.p.outwK k (by simp)).1,(h.p.outwK k (by simp)).2,?_,(h.p.mapK k (by simp)).2,h1,h.p.lstK k (by simp) (by simp),h.p.encK k (by simp),h.p.decK k (by simp)⟩,λg hg=>h.new g (by omega)⟩,?_⟩
 · show SM _ _ _ _ ((updS M.strs {s with outw:=v}).map (·.id)) _
   rw[updS_ids];exact(h.p.mapK k (by simp)).1
 · exact Fr.grown (grown_setCell (World.grownBy.refl w (some (L.s s.id).ob)) 0 _) λg e=>by injection e with e;subst e;rw[hS.tu];simp
end
end Go.Proofs.YtkpppjhbmnfmkaaGreatDoor
end

section
namespace Go.Proofs.YtkpppjhbmnfmkaaGreatDoor
open Go.RowKit Go.Own Go.Own.Im Go.Own.Cx Go.Own.Fr Go.Own.Hd
end Go.Proofs.YtkpppjhbmnfmkaaGreatDoor
end
