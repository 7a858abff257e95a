/-
  
  
  
-/
import Derived.Test.YtkpppjhbmnfmkaaGreatDoorJam
import Derived.Test.YtkpppjhbmnfmkaaGreatDoorJao
import Derived.Deep.RegionLaw
set_option linter.unusedSimpArgs false
set_option linter.unusedVariables false
section
set_option maxHeartbeats 1000000
namespace Go.Proofs.YtkpppjhbmnfmkaaGreatDoor
open Go.RowKit Go.Own Go.Own.Im Go.Own.Cx Go.Own.Fr
theorem inj_of_nodup:∀{l:List Sv},(l.map (·.id)).Nodup->∀{x y:Sv},x∈l->y∈l->x.id=y.id->x=y
 |[],_,_,_,h,_,_=>by cases h
 |a::l,h,x,y,hx,hy,e=>by
  rw[List.map_cons,List.nodup_cons]at h;have key:∀z:Sv,z∈l->z.id≠a.id:=λz hz ez=>h.1 (ez▸List.mem_map.2 ⟨z,hz,rfl⟩);rcases List.mem_cons.1 hx with h1|h1
  · rcases List.mem_cons.1 hy with h0|h0
    · rw[h1,h0]
    · exact absurd (by rw[<-e,h1]) (key y h0)
  · rcases List.mem_cons.1 hy with h0|h0
    · exact absurd (by rw[e,h0]) (key x h1)
    · exact inj_of_nodup h.2 h1 h0 e
def updS (l:List Sv) (s:Sv):List Sv:=l.map λx=>if x.id=s.id then s else x
theorem updS_ids (l:List Sv) (s:Sv):(updS l s).map (·.id)=l.map (·.id):=by
 unfold updS;rw[List.map_map];apply List.map_congr_left;intro x _;simp only[Function.comp]
 split
 · rename_i h;exact h.symm
 · rfl
theorem updS_last {l:List Sv} {s s':Sv} (h:∀x∈l,x.id≠s'.id) (e:s.id=s'.id):updS (l++[s]) s'=l++[s']:=by
 unfold updS;rw[List.map_append]
 congr 1
 · have:(l.map λx=>if x.id=s'.id then s' else x)=l.map id:=List.map_congr_left λx hx=>by simp[h x hx]
   rw[this,List.map_id]
 · simp[e]
theorem CN.strcell {w:World} {ow:Nat->Tg} {b:Nat} {M:Cv} {L:Lay} (h:CN w ow b M L) {s s':Sv} (hs:s∈M.strs) (hid:s'.id=s.id) (i:Nat) (v:Value) (hc:(stC s (L.s s.id)).setIfInBounds i v=stC s' (L.s s.id)) (h1:s'.inw=s.inw) (h2:s'.outw=s.outw) (h3:s'.waits=s.waits):
 CN (w.setCell ⟨(L.s s.id).sb,i,none⟩ v) ow b {M with strs:=updS M.strs s'} L/\Fr w ow (w.setCell ⟨(L.s s.id).sb,i,none⟩ v) ow:=by
 have hS:=h.p.strs s hs;have hsz:(w.setCell ⟨(L.s s.id).sb,i,none⟩ v).heap.size=w.heap.size:=by simp[World.setCell]
 have k:Kp (λx=>x= .st s.id 0) w ow (w.setCell ⟨(L.s s.id).sb,i,none⟩ v) ow:=
  ⟨by omega,λg _ ht _=>⟨Below.heap_setCell w _ _ g (λe=>ht (by rw[e];exact hS.tb)),rfl⟩⟩
 have h0:=h.blkK k (by simp);have h4:∀x∈updS M.strs s',SN (w.setCell ⟨(L.s s.id).sb,i,none⟩ v) ow L.ob (L.s x.id) x:=by
  intro x hx;obtain⟨y,hy,rfl⟩:=List.mem_map.1 hx;by_cases e:y.id=s'.id
  · rw[if_pos e,hid]
    refine⟨hc▸hS.blk.put i v,hid.symm▸hS.tb,?_,?_,?_,?_,?_,?_,?_,?_,?_⟩
    · rw[h1];exact(k.at_ (.st s.id 1) (by simp) (by simp) _ hS.ti hS.inw.lt).1.trans hS.inw
    · rw[hid];exact hS.ti
    · rw[h2];exact(k.at_ (.st s.id 2) (by simp) (by simp) _ hS.tu hS.outw.lt).1.trans hS.outw
    · rw[hid];exact hS.tu
    · exact(k.at_ (.st s.id 3) (by simp) (by simp) _ hS.tp hS.pair.lt).1.trans hS.pair
    · rw[hid];exact hS.tp
    · exact(k.at_ (.st s.id 4) (by simp) (by simp) _ hS.tr hS.row.lt).1.trans hS.row
    · rw[hid];exact hS.tr
    · rw[h3,hid]
      exact hS.waits.turn (λg h5 ho=>k.at_ (.st s.id 5) (by simp) (by simp) g ho h5) k.size
  · rw[if_neg e]
    exact h.p.strK k y hy (by intro j;simp;intro e2;exact absurd (e2.trans hid.symm) e)
 refine⟨⟨h0.1,h0.2,⟨h.p.fedK k (by simp),h.p.outK k (by simp),h.p.evK k (by simp) (by simp),(h.p.inwK k (by simp)).1,(h.p.inwK k (by simp)).2,(h.p.outwK k (by simp)).1,(h.p.outwK k (by simp)).2,?_,(h.p.mapK k (by simp)).2,h4,h.p.lstK k (by simp) (by simp),h.p.encK k (by simp),h.p.decK k (by simp)⟩,λg hg=>h.new g (by omega)⟩,?_⟩
 · show SM _ _ _ _ ((updS M.strs s').map (·.id)) _
   rw[updS_ids];exact(h.p.mapK k (by simp)).1
 · exact Fr.grown (grown_setCell (World.grownBy.refl w (some (L.s s.id).sb)) i v) λg e=>by injection e with e;subst e;rw[hS.tb];simp
theorem over_no (cv:Value) (w:World) (ow:Nat->Tg) (co:Nat) (l:SLay) (s:Sv) (h:SN w ow co l s) (hn:s.own≠3\/s.other≠3):
 Calls Tryz.prog 97 #[cv,.pointer (some ⟨l.sb,0,none⟩)] w λe w'=>e= .returned (.tuple #[])/\w'=w:=by
 have d1:w.cell? ⟨l.sb,1,none⟩=some (.int .i64 (s.own:Nat)):=h.blk.cell 1;have d2:w.cell? ⟨l.sb,2,none⟩=some (.int .i64 (s.other:Nat)):=h.blk.cell 2;clear h;generalize s.own=x at*
 generalize s.other=y at*
 generalize l.sb=sb at*
 by_cases hx:x=3
 · have hy:¬(y:Int)=3:=by omega
   have h1:((y:Int)==3)=false:=by simpa using hy
   subst hx;clear hn;go_enter Tryz.func97,Tryz.ntmps97;go_wp2;go_end0;exact⟨rfl,rfl⟩
 · have h0:¬(x:Int)=3:=by omega
   have h2:((x:Int)==3)=false:=by simpa using h0
   clear hn;go_enter Tryz.func97,Tryz.ntmps97;go_wp2;go_end0;exact⟨rfl,rfl⟩
def endS (s:Sv) (fin:Bool):Sv:=if fin then{s with other:=3}else s
theorem ends_any (w:World) (ow:Nat->Tg) (b:Nat) (M:Cv) (L:Lay) (s:Sv) (fin:Bool) (h:CN w ow b M L) (hs:s∈M.strs) (ho:s.own≠3) (hu:(M.strs.map (·.id)).Nodup):
 Calls Tryz.prog 193 #[.pointer (some ⟨b,0,none⟩),.pointer (some ⟨(L.s s.id).sb,0,none⟩),.bool fin] w (CPost w ow b {M with strs:=updS M.strs (endS s fin)} (.tuple #[])):=by
 cases fin with
 |false=>
  have e:updS M.strs (endS s false)=M.strs:=by
   unfold updS endS;have:(M.strs.map λx=>if x.id=(if false=true then{s with other:=3}else s).id then(if false=true then{s with other:=3}else s)else x)=M.strs.map id:=List.map_congr_left λx hx=>by
    simp only[Bool.false_eq_true,if_false,id]
    split
    · rename_i e
      exact(inj_of_nodup hu hx hs e).symm
    · rfl
   rw[this,List.map_id]
  rw[e];go_enter Tryz.func193,Tryz.ntmps193;go_wp2;go_end0;exact⟨ow,L,rfl,h,Fr.refl w ow⟩
 |true=>
  have hS:=h.p.strs s hs;have hk:=h.strcell (s':={s with other:=3}) hs rfl 2 (.int .i64 3) rfl rfl rfl rfl;have HK:=Lib.hid hk;have d2:w.cell? ⟨(L.s s.id).sb,2,none⟩=some (.int .i64 (s.other:Nat)):=hS.blk.cell 2;have f2:=hS.blk.frozen 2;have h0:({s with other:=3}:Sv)∈updS M.strs {s with other:=3}:=List.mem_map.2 ⟨s,hs,by simp⟩;have HO:=Lib.hid (λcv=>over_no cv _ ow L.ob (L.s s.id) {s with other:=3} (hk.1.p.strs _ h0) (.inl ho));clear h hk hS h0;go_enter Tryz.func193,Tryz.ntmps193;go_wp2_with (first
   |(go_at_call 97
     with_reducible refine Calls.mono (HO.out _) ?_
     rintro e w1 ⟨rfl,hw⟩;subst w1)
   |fail)
  go_end0;exact⟨ow,L,rfl,HK.out.1,HK.out.2⟩
end Go.Proofs.YtkpppjhbmnfmkaaGreatDoor
end

section
set_option maxHeartbeats 4000000
set_option maxRecDepth 100000
namespace Go.Proofs.YtkpppjhbmnfmkaaGreatDoor
open Go.RowKit Go.Own Go.Own.Im Go.Own.Cx Go.Own.Fr
section
variable {w w':World} {ow ow':Nat->Tg} {b:Nat} {M:Cv} {L:Lay}
def dropM (M:Cv) (id:Nat):Cv:={M with strs:=M.strs.filter λs=>s.id != id}
theorem CN.drops (h:CN w ow b M L) {id:Nat} (hw:(Lit.int .i64 (id:Int)).wf=true) (h2:id∈M.strs.map (·.id)) (h3:(M.strs.map (·.id)).Nodup) (ty:TypeId):
 ∃w',(Builtin.delete_ #[74,3] ty #[.map (some L.mb),.int .i64 (id:Int)]).run Tryz.prog w= .ok (.tuple #[]) w'/\CN w' ow b (dropM M id) L/\Fr w ow w' ow/\w.grownBy w' (some L.mb):=by
 obtain⟨w',h0,hm,hg,hsz⟩:=h.p.map.drop Tryz.underlying74 Tryz.underlying3 hw h2 h3 ty;have k:=Kp.row h hg (t:=.map) (λg e=>by injection e with e;rw[<-e];exact h.p.tm);have h1:=h.blkK k (by decide);have e:(M.strs.map (·.id)).filter (λi=>i != id)=((dropM M id).strs).map (·.id):=by
  show _=(M.strs.filter λs=>s.id != id).map (·.id);rw[List.filter_map]
  rfl
 rw[e]at hm;refine⟨w',h0,⟨h1.1,h1.2,⟨h.p.fedK k (by decide),h.p.outK k (by decide),h.p.evK k (by decide) (by decide),(h.p.inwK k (by decide)).1,(h.p.inwK k (by decide)).2,(h.p.outwK k (by decide)).1,(h.p.outwK k (by decide)).2,
  hm,h.p.tm,λs hs=>h.p.strK k s (List.mem_filter.1 hs).1 (by intro j;simp),h.p.lstK k (by decide) (by decide),h.p.encK k (by decide),h.p.decK k (by decide)⟩,λg h4=>h.new g (by omega)⟩,Fr.grown hg (λg e=>by injection e with e;rw[<-e,h.p.tm];decide),hg⟩
end
section
variable {ops:Array Oper} {o:Oper} {a:Act} {Q:Exit->Act->World->Prop} {K:Act->World->Prop} {E:Prop} {w:World} {ow:Nat->Tg} {b:Nat} {M:Cv} {L:Lay}
theorem step_drops (h1:o.guard=none) (s x:Operand) (ho:o.op= .call {callee:=.builtin .delete,args:=#[s,x],argTypes:=#[74,3]}) (hs:a.eval s= .map (some L.mb)) {id:Nat} (hx:a.eval x= .int .i64 (id:Int))
 (h:CN w ow b M L) (hw:(Lit.int .i64 (id:Int)).wf=true) (h2:id∈M.strs.map (·.id)) (h3:(M.strs.map (·.id)).Nodup)
 (hK:∀w',CN w' ow b (dropM M id) L->Fr w ow w' ow->w.grownBy w' (some L.mb)->K (a.put o.dst (.tuple #[])) w'):
 if Region.wanted o (yielded ops a.tmps)=true then Oper.wp Tryz.prog o a w K Q else E:=by
 have h4:Region.wanted o (yielded ops a.tmps)=true:=by simp[Region.wanted,h1]
 rw[if_pos h4];obtain⟨w',h0,r1,r2,r3⟩:=h.drops hw h2 h3 o.type;unfold Oper.wp execOp;simp only[ho,resolve,invoke,builtin,Sem.run_bind,Sem.run_pure,Result.andThen_ok,List.map_toArray,List.map_cons,List.map_nil,hs,hx,h0];exact hK w' r1 r2 r3
end
theorem gives_none (w:World) (cv sv:Value):Calls Tryz.prog 147 #[cv,sv,.int .i64 0] w λe w'=>e= .returned (.tuple #[])/\w'=w:=by
 go_enter Tryz.func147,Tryz.ntmps147;go_wp2;exact bodyPost_ret (v:=.tuple #[]) (by simp[results,Tryz.results147]) rfl ⟨rfl,rfl⟩
theorem leaves0_same (w:World) (ow:Nat->Tg) (b:Nat) (M:Cv) (L:Lay) (s:Sv) (h:CN w ow b M L) (hs:s∈M.strs) (hh:s.held=0) (hid:s.id<=2147483647) (h4:(M.strs.map (·.id)).Nodup):
 Calls Tryz.prog 110 #[.pointer (some ⟨b,0,none⟩),.pointer (some ⟨(L.s s.id).sb,0,none⟩)] w (λe w'=>e= .returned (.tuple #[])/\CN w' ow b (dropM M s.id) L/\Fr w ow w' ow):=by
 have HC:=Lib.hid h;have h2:=(h.p.strs s hs).blk;have h9:=Lib.hid h2;have HT:=Lib.hid (h.p.strs s hs).tb;have h5:(Lit.int .i64 (s.id:Int)).wf=true:=by simp[Lit.wf,IntKind.min,IntKind.max,IntKind.bits,IntKind.signed];omega
 have HW:=Lib.hid h5;have hb:=Lib.hid (show s.id∈M.strs.map (·.id)from List.mem_map.2 ⟨s,hs,rfl⟩);have hc:=Lib.hid h4;have c15:w.drew.cell? ⟨b,15,none⟩=some (.map (some L.mb)):=h.blk.cell 15;have s0:w.drew.cell? ⟨(L.s s.id).sb,0,none⟩=some (.int .i64 (s.id:Nat)):=h2.cell 0;have h0:(s.held:Int)=0:=by omega
 clear h hs hh hid h4 h2 h5;go_enter Tryz.func110,Tryz.ntmps110;go_wp2_with fail;go_region_law (first
  |(refine step_drops rfl (.tmp 7) (.tmp 11) rfl rfl rfl (show CN w.drew ow b M L from HC.out.drew) HW.out hb.out hc.out ?_
    intro w1 h6 h7 h8;have hd:=Lib.hid h6;have he:=Lib.hid h7;have hf:=Lib.hid h8;clear h6 h7 h8))
 all_goals
  have h3:=(show Blk w.drew (L.s s.id).sb 122 (stC s (L.s s.id))from h9.out).grown hf.out (λe=>by injection e with e;have h1:=HT.out;rw[e,HC.out.p.tm]at h1;cases h1);have s9:w1.cell? ⟨(L.s s.id).sb,9,none⟩=some (.int .i64 (s.held:Nat)):=h3.cell 9;rw[h0]at s9;go_wp2_with fail;refine(gives_none _ _ _).mono ?_;rintro e w2 ⟨rfl,hw⟩;subst w2;go_wp2;go_end0;exact⟨rfl,hd.out,(Fr.drewN w ow 1).trans he.out⟩
theorem leaves0_any (w:World) (ow:Nat->Tg) (b:Nat) (M:Cv) (L:Lay) (s:Sv) (h:CN w ow b M L) (hs:s∈M.strs) (hh:s.held=0) (hid:s.id<=2147483647) (hnd:(M.strs.map (·.id)).Nodup):
 Calls Tryz.prog 110 #[.pointer (some ⟨b,0,none⟩),.pointer (some ⟨(L.s s.id).sb,0,none⟩)] w (CPost w ow b (dropM M s.id) (.tuple #[])):=
 (leaves0_same w ow b M L s h hs hh hid hnd).mono λ_ _ ⟨h1,h2,h3⟩=>⟨ow,L,h1,h2,h3⟩
end Go.Proofs.YtkpppjhbmnfmkaaGreatDoor
end

section
set_option maxHeartbeats 1000000
namespace Go.Proofs.YtkpppjhbmnfmkaaGreatDoor
open Go.RowKit Go.Own Go.Own.Im Go.Own.Cx Go.Own.Fr
theorem over_yes (w:World) (ow:Nat->Tg) (b:Nat) (M:Cv) (L:Lay) (s:Sv) (h:CN w ow b M L) (hs:s∈M.strs) (h1:s.own=3) (h2:s.other=3) (hh:s.held=0) (hid:s.id<=2147483647) (h0:(M.strs.map (·.id)).Nodup):
 Calls Tryz.prog 97 #[.pointer (some ⟨b,0,none⟩),.pointer (some ⟨(L.s s.id).sb,0,none⟩)] w (CPost w ow b (dropM M s.id) (.tuple #[])):=by
 have hS:=h.p.strs s hs;have d1:w.cell? ⟨(L.s s.id).sb,1,none⟩=some (.int .i64 (s.own:Nat)):=hS.blk.cell 1;have d2:w.cell? ⟨(L.s s.id).sb,2,none⟩=some (.int .i64 (s.other:Nat)):=hS.blk.cell 2;rw[h1]at d1;rw[h2]at d2;have HL:=Lib.hid (leaves0_any w ow b M L s h hs hh hid h0);clear h hs h1 h2 hh hid h0 hS;go_enter Tryz.func97,Tryz.ntmps97;go_wp2_with fail;refine HL.out.mono ?_;intro e w1 hp;obtain rfl:=hp.ret;have HQ:=Lib.hid hp;clear hp;go_wp2;go_end0;exact HQ.out
def finM (M:Cv) (s:Sv) (fin:Bool):Cv:=if fin then(if s.other=3 then dropM M s.id else{M with strs:=updS M.strs {s with own:=3}})else M
theorem drop_upd (l:List Sv) (s:Sv):(updS l s).filter (λx=>x.id != s.id)=l.filter (λx=>x.id != s.id):=by
 induction l with
 |nil=>rfl
 |cons x l ih=>
  unfold updS at ih ⊢;rw[List.map_cons,List.filter_cons,List.filter_cons,ih];by_cases e:x.id=s.id
  · rw[if_pos e,e];simp
  · rw[if_neg e]
theorem finishes_any (w:World) (ow:Nat->Tg) (b:Nat) (M:Cv) (L:Lay) (s:Sv) (fin:Bool) (h:CN w ow b M L) (hs:s∈M.strs) (hh:s.held=0) (hid:s.id<=2147483647) (h1:(M.strs.map (·.id)).Nodup):
 Calls Tryz.prog 61 #[.pointer (some ⟨b,0,none⟩),.pointer (some ⟨(L.s s.id).sb,0,none⟩),.bool fin] w (CPost w ow b (finM M s fin) (.tuple #[])):=by
 cases fin with
 |false=>
  go_enter Tryz.func61,Tryz.ntmps61;go_wp2;go_end0;exact⟨ow,L,rfl,h,Fr.refl w ow⟩
 |true=>
  have hS:=h.p.strs s hs;have hk:=h.strcell (s':={s with own:=3}) hs rfl 1 (.int .i64 3) rfl rfl rfl rfl;have d1:w.cell? ⟨(L.s s.id).sb,1,none⟩=some (.int .i64 (s.own:Nat)):=hS.blk.cell 1;have f1:=hS.blk.frozen 1;have h0:({s with own:=3}:Sv)∈updS M.strs {s with own:=3}:=List.mem_map.2 ⟨s,hs,by simp⟩;have HO:=Lib.hid (show Calls Tryz.prog 97 #[.pointer (some ⟨b,0,none⟩),.pointer (some ⟨(L.s s.id).sb,0,none⟩)] (w.setCell ⟨(L.s s.id).sb,1,none⟩ (.int .i64 3)) (CPost (w.setCell ⟨(L.s s.id).sb,1,none⟩ (.int .i64 3)) ow b (finM M s true) (.tuple #[]))from by
   by_cases ho:s.other=3
   · have e:finM M s true=dropM {M with strs:=updS M.strs {s with own:=3}} s.id:=by
      unfold finM dropM;rw[if_pos rfl,if_pos ho];have:=drop_upd M.strs {s with own:=3};simp only at this ⊢;rw[this]
     rw[e];exact over_yes _ ow b {M with strs:=updS M.strs {s with own:=3}} L {s with own:=3} hk.1 h0 rfl ho hh hid (by show(List.map (·.id) (updS M.strs _)).Nodup;rw[updS_ids];exact h1)
   · have e:finM M s true={M with strs:=updS M.strs {s with own:=3}}:=by
      unfold finM;rw[if_pos rfl,if_neg ho]
     rw[e];refine(over_no _ _ ow L.ob (L.s s.id) {s with own:=3} (hk.1.p.strs _ h0) (.inr ho)).mono ?_;rintro e2 w1 ⟨rfl,rfl⟩;exact⟨ow,L,rfl,hk.1,Fr.refl _ _⟩)
  have HF:=Lib.hid hk.2;clear h hk hS h0;go_enter Tryz.func61,Tryz.ntmps61;go_wp2_with fail;refine HO.out.mono ?_;intro e w1 hp;obtain rfl:=hp.ret;have HQ:=Lib.hid (hp.trans HF.out);clear hp;go_wp2;go_end0;exact HQ.out
end Go.Proofs.YtkpppjhbmnfmkaaGreatDoor
end
