/-
  
  
  
  
  
  
  
  
-/
import Derived.Test.YtkpppjhbmnfmkaaGreatDoorJao
import Derived.Test.YtkpppjhbmnfmkaaGreatDoorJan
import Derived.Test.YtkpppjhbmnfmkaaGreatDoorJac
import Derived.LaidEql
import Derived.Test.YtkpppjhbmnfmkaaGreatDoorC2
import Derived.BigQuiet
import Derived.Recover
import Derived.Defers
import Derived.Test.YtkpppjhbmnfmkaaGreatDoorJab
import Derived.Deep.RegionHeld3
set_option linter.unusedSimpArgs false
set_option linter.unusedVariables false
section
namespace Go.Proofs.YtkpppjhbmnfmkaaGreatDoor
open Go.RowKit Go.Own Go.Own.Im Go.Own.Cx
structure EndsF (w:World) (ow:Nat->Tg) (a c:Addr):Prop where
 room:20<=w.heap.size
 no:∀g,g<20->ow g= .no
 ne:a≠c
 e:w.cell? ⟨10,0,none⟩=some (.iface 327 (.pointer (some a)))
 l:w.cell? ⟨5,0,none⟩=some (.iface 327 (.pointer (some c)))
 ba:∃cs t,w.heap[a.block]?=some (.cells cs t (0,0))
 bc:∃cs t,w.heap[c.block]?=some (.cells cs t (0,0))
 na:ow a.block= .no
 nc:ow c.block= .no
structure Env (w:World) (ow:Nat->Tg):Prop where
 room:20<=w.heap.size
 no:∀g,g<20->ow g= .no
 env:∃e1 e2 e3,H6.EnvH w e1 e2 e3
 ends:∃a c,EndsF w ow a c
 hp:HpE w
section
variable {w w':World} {ow ow':Nat->Tg} {b:Nat} {M:Cv} {L:Lay}
theorem EndsF.fr {a c:Addr} (h:EndsF w ow a c) (f:Fr w ow w' ow'):EndsF w' ow' a c:=by
 have hk:∀i,i<20->w'.heap[i]?=w.heap[i]?:=λi hi=>f.keep i (by have:=h.room;omega) (h.no i hi);have hz:20<=w'.heap.size:=Nat.le_trans h.room f.size;obtain⟨ca,ta,ha⟩:=h.ba;obtain⟨cc,tc,hc⟩:=h.bc;have h0:=(Array.getElem?_eq_some_iff.1 ha).1;have h1:=(Array.getElem?_eq_some_iff.1 hc).1;exact⟨hz,λg hg=>f.no g (by have:=h.room;omega) (h.no g hg),h.ne,(World.cell?_of_block (a:=⟨10,0,none⟩) (hk _ (by decide))).trans h.e,(World.cell?_of_block (a:=⟨5,0,none⟩) (hk _ (by decide))).trans h.l,
  ⟨ca,ta,(f.keep _ h0 h.na).trans ha⟩,⟨cc,tc,(f.keep _ h1 h.nc).trans hc⟩,f.no _ h0 h.na,f.no _ h1 h.nc⟩
theorem EndsF.eql {a c:Addr} (h:EndsF w ow a c):(binOp .eql 28 (.iface 327 (.pointer (some a))) (.iface 327 (.pointer (some c)))).run Tryz.prog w= .ok (.bool false) w:=by
 obtain⟨ca,ta,ha⟩:=h.ba;obtain⟨cc,tc,hc⟩:=h.bc;obtain⟨i,hi,h0⟩:=Option.map_eq_some_iff.1 (show(Tryz.prog.info? 327).map (·.comparable)=some true by kernel_rfl);obtain⟨j,hj,h1⟩:=Option.map_eq_some_iff.1 (show(Tryz.prog.info? 329).map (·.size)=some 1 by kernel_rfl);exact run_eql_iface_ptr_other (P:=Tryz.prog) w Tryz.underlying28 Tryz.underlying327 hi h0 hj (by rw[h1];decide) h.ne ha hc
theorem Env.fr (h:Env w ow) (f:Fr w ow w' ow'):Env w' ow':=by
 have hk:∀i,i<20->w'.heap[i]?=w.heap[i]?:=λi hi=>f.keep i (by have:=h.room;omega) (h.no i hi);have hz:20<=w'.heap.size:=Nat.le_trans h.room f.size;obtain⟨e1,e2,e3,he⟩:=h.env;obtain⟨a,c,hf⟩:=h.ends;exact⟨hz,λg hg=>f.no g (by have:=h.room;omega) (h.no g hg),⟨e1,e2,e3,he.kept hk hz⟩,⟨a,c,hf.fr f⟩,h.hp.keep f.size hk⟩
def StepT (M:Cv) (more:Bool) (S:Cv->Prop):Prop:=∀(w:World) (ow:Nat->Tg) (b:Nat) (L:Lay),Env w ow->CN w ow b M L->
 Calls Tryz.prog 40 #[.pointer (some ⟨b,0,none⟩)] w (CPostS w ow b S (.bool more))
inductive Runs:Nat->Cv->(Cv->Prop)->Prop
 |dead {n:Nat} {M:Cv} {S:Cv->Prop}:M.dead=true->S M->Runs n M S
 |stop {n:Nat} {M:Cv} {S:Cv->Prop}:M.dead=false->StepT M false S->Runs n M S
 |more {n:Nat} {M:Cv} {S S':Cv->Prop}:M.dead=false->StepT M true S'->(∀M1,S' M1->Runs n M1 S)->Runs (n+1) M S
def offE (ow:Nat->Tg):Nat->Tg:=λj=>if ow j= .ev\/ow j= .evd then .no else ow j
theorem offE_other {ow:Nat->Tg} {j:Nat} (h1:ow j≠ .ev) (h2:ow j≠ .evd):offE ow j=ow j:=by
 unfold offE;rw[if_neg];rintro(e|e)
 · exact h1 e
 · exact h2 e
theorem CN.unevs (h:CN w ow b M L):CN (w.setCell ⟨b,7,none⟩ (.slice none 0 0)) (offE ow) b {M with evs:=[]} {L with ev:=.slice none 0 0}/\Fr w ow (w.setCell ⟨b,7,none⟩ (.slice none 0 0)) (offE ow):=by
 have hsz:(w.setCell ⟨b,7,none⟩ (.slice none 0 0)).heap.size=w.heap.size:=by simp[World.setCell]
 have k:Kp (λx=>x= .ev\/x= .evd) w ow w (offE ow):=⟨Nat.le_refl _,λg _ ht _=>⟨rfl,offE_other (λe=>ht (.inl e)) (λe=>ht (.inr e))⟩⟩;have h0:=h.blkK k (by decide);have h1:CP w (offE ow) M.fed M.out [] M.inw M.outw M.strs M.list M.hp {L with ev:=.slice none 0 0}:=
  ⟨h.p.fedK k (by decide),h.p.outK k (by decide),⟨Cm.Ew.nil _ _ _ _ _,(λg e=>by cases e),(λe he=>by cases he)⟩,(h.p.inwK k (by decide)).1,(h.p.inwK k (by decide)).2,(h.p.outwK k (by decide)).1,(h.p.outwK k (by decide)).2,(h.p.mapK k (by decide)).1,(h.p.mapK k (by decide)).2,
    λs hs=>h.p.strK k s hs (by intro j;simp),h.p.lstK k (by decide) (by decide),h.p.encK k (by decide),h.p.decK k (by decide)⟩
 refine⟨⟨h0.1.put 7 _,h0.2,h1.keep (by omega) λg _ hn _=>⟨Below.heap_setCell w _ _ g (λe=>hn (by rw[e];exact h0.2)),rfl⟩,λg h3=>?_⟩,⟨rfl,rfl,rfl,by omega,λg h2 ho=>Below.heap_setCell w _ _ g (λe=>by rw[e,h.tb]at ho;cases ho),λg h2 ho=>?_⟩⟩
 · rw[offE_other (by rw[h.new g (by omega)];decide) (by rw[h.new g (by omega)];decide)]
   exact h.new g (by omega)
 · rw[offE_other (by rw[ho];decide) (by rw[ho];decide)]
   exact ho
structure EvR (w:World) (ow:Nat->Tg) (e:EvV):Prop where
 lst:e.l.length<=e.lc/\Cm.RS hdrC 3 w w.heap.size e.la e.l.length e.l/\(0<e.l.length->∀ad,e.la=some ad->ow ad.block= .no)
 byt:e.by_.length<=e.bc/\Rd w w.heap.size e.ba e.by_.length e.by_/\(0<e.by_.length->∀ad,e.ba=some ad->ow ad.block= .no/\UF w ad.block)
structure EvN (w:World) (ow:Nat->Tg) (e:EvV):Prop where
 lst:0<e.l.length->∀ad,e.la=some ad->ow ad.block= .no->w.heap.size<=ad.block
 byt:0<e.by_.length->∀ad,e.ba=some ad->ow ad.block= .no->w.heap.size<=ad.block
theorem EvOk.new {w0:World} {ow0:Nat->Tg} {e:EvV} (h:EvOk w ow e) (hf:Fr w0 ow0 w ow):EvN w0 ow0 e:=
 ⟨λhp ad ha hx=>Nat.le_of_not_lt (λh0=>by have h9:=hf.no _ h0 hx;rw[h.lst.2.2 hp ad ha]at h9;cases h9),
  λhp ad ha hx=>Nat.le_of_not_lt λh0=>by have h9:=hf.no _ h0 hx;rw[(h.byt.2.2 hp ad ha).1]at h9;cases h9⟩
theorem EvOk.handed {e:EvV} (h:EvOk w ow e) (hb:ow b= .cn) (v:Value):EvR (w.setCell ⟨b,7,none⟩ v) (offE ow) e:=by
 have hsz:(w.setCell ⟨b,7,none⟩ v).heap.size=w.heap.size:=by simp[World.setCell]
 have h2:∀j,ow j= .evd->offE ow j= .no:=λj hj=>if_pos (.inr hj);refine⟨⟨h.lst.1,?_,λhp ad ha=>h2 _ (h.lst.2.2 hp ad ha)⟩,⟨h.byt.1,?_,λhp ad ha=>⟨h2 _ (h.byt.2.2 hp ad ha).1,(h.byt.2.2 hp ad ha).2.same (Below.heap_setCell w _ _ _ (λe2=>by have:=(h.byt.2.2 hp ad ha).1;rw[e2,hb]at this;cases this))⟩⟩⟩
 · rw[hsz]
   rcases Nat.eq_zero_or_pos e.l.length with h0|h0
   · have:e.l=[]:=List.eq_nil_of_length_eq_zero h0
     rw[this];have h1:=h.lst.2.1.1;exact⟨by simp,λj x hx=>by cases hx⟩
   · exact h.lst.2.1.setCell (λad ha e2=>by have:=h.lst.2.2 h0 ad ha;rw[e2,hb]at this;cases this) _
 · rw[hsz]
   refine⟨h.byt.2.1.1,λhp=>?_⟩;obtain⟨ad,ha,h3,hc⟩:=h.byt.2.1.2 hp;refine⟨ad,ha,h3,λj hj=>?_⟩;have hne:ad.block≠b:=λe2=>by have:=(h.byt.2.2 hp ad ha).1;rw[e2,hb]at this;cases this
   exact(World.cell?_of_block (a:=ad.add j) (by rw[add_block];exact Below.heap_setCell w _ _ _ hne)).trans (hc j hj)
def FeedPost (w:World) (ow:Nat->Tg) (b:Nat) (S:Cv->Prop) (e:Ending) (w':World):Prop:=
 ∃M' A c ow' L',S M'/\e= .returned (.slice A M'.evs.length c)/\M'.evs.length<=c/\CN w' ow' b {M' with evs:=[]} L'/\Fr w ow w' ow'/\Cm.RS evC 7 w' w'.heap.size A M'.evs.length M'.evs/\
  (0<M'.evs.length->∀ad,A=some ad->ow' ad.block= .no/\(ow ad.block= .no->w.heap.size<=ad.block))/\∀x∈M'.evs,EvR w' ow' x/\EvN w ow x
theorem CN.handed (h:CN w ow b M L):∃A c,L.ev= .slice A M.evs.length c/\∀w0 ow0,Fr w0 ow0 w ow->∀S:Cv->Prop,S M->FeedPost w0 ow0 b S (.returned (.slice A M.evs.length c)) (w.setCell ⟨b,7,none⟩ (.slice none 0 0)):=by
 obtain⟨A,c,hL,h3,_⟩:=h.p.ev.row.form;refine⟨A,c,hL,λw0 ow0 hf S hS=>?_⟩;have hu:=h.unevs;have hsz:(w.setCell ⟨b,7,none⟩ (.slice none 0 0)).heap.size=w.heap.size:=by simp[World.setCell]
 have h1:=h.p.ev.row;rw[hL]at h1;have h2:∀ad,A=some ad->0<M.evs.length->ow ad.block= .ev:=λad ha hp=>by
  refine h.p.ev.own _ ?_;rcases h1.2 with⟨e,h0⟩|⟨g,cap,cur,e,_⟩
  · omega
  · rw[hL,e]
    have e1:=e;injection e1 with e1
    rw[ha]at e1;injection e1 with e1
    rw[e1];rfl
 refine⟨M,A,c,_,_,hS,rfl,h3,hu.1,hf.trans hu.2,?_,λhp ad ha=>⟨if_pos (.inl (h2 ad ha hp)),λhx=>Nat.le_of_not_lt λh4=>by have h9:=hf.no _ h4 hx;rw[h2 ad ha hp]at h9;cases h9⟩,λx hx=>⟨(h.p.ev.each x hx).handed h.tb _,(h.p.ev.each x hx).new hf⟩⟩;rw[hsz];have h5:=h1.rs (λ_=>rfl) (by decide);rcases Nat.eq_zero_or_pos M.evs.length with h0|h0
 · have:M.evs=[]:=List.eq_nil_of_length_eq_zero h0
   rw[this];exact⟨by simp,λj x hx=>by cases hx⟩
 · exact h5.setCell (λad ha e2=>by have:=h2 ad ha h0;rw[e2,h.tb]at this;cases this) _
end
end Go.Proofs.YtkpppjhbmnfmkaaGreatDoor
end

section
set_option maxHeartbeats 4000000
set_option maxRecDepth 100000
namespace Go.Proofs.YtkpppjhbmnfmkaaGreatDoor
open Lib (hid)
open Go.RowKit Go.Own Go.Own.Im Go.Own.Cx Go.Own.Fr
def deadM (M:Cv) (c:Nat):Cv:={M with fed:=[],list:=none,dead:=true,code:=c,strs:=[],out:=M.out++frameB 7 0 0 (be (lastB M) 4++be c 4),evs:=M.evs++[{kind:=8,code:=c}]}
section
variable {w w':World} {ow ow':Nat->Tg} {b:Nat} {M:Cv} {L:Lay}
theorem CN.dies (h:CN w ow b M L):CN (w.setCell ⟨b,19,none⟩ (.bool true)) ow b {M with dead:=true} L/\Fr w ow (w.setCell ⟨b,19,none⟩ (.bool true)) ow:=h.cell 19 _ rfl h.p
theorem CN.codes (h:CN w ow b M L) (c:Nat):CN (w.setCell ⟨b,20,none⟩ (.int .i64 (c:Nat))) ow b {M with code:=c} L/\Fr w ow (w.setCell ⟨b,20,none⟩ (.int .i64 (c:Nat))) ow:=h.cell 20 _ rfl h.p
theorem CN.unfeds (h:CN w ow b M L):CN (w.setCell ⟨b,3,none⟩ (.slice none 0 0)) ow b {M with fed:=[]} {L with fed:=.slice none 0 0}/\Fr w ow (w.setCell ⟨b,3,none⟩ (.slice none 0 0)) ow:=
 h.cell (M':={M with fed:=[]}) (L':={L with fed:=.slice none 0 0}) 3 _ rfl ⟨Oz.nil _ _,h.p.out,h.p.ev,h.p.inw,h.p.ti,h.p.outw,h.p.tu,h.p.map,h.p.tm,h.p.strs,h.p.lst,h.p.enc,h.p.dec⟩
theorem CN.cuts (h:CN w ow b M L) {A A':Option Addr} {n c k:Nat} (hL:L.fed= .slice A n c) (hk:k<=n) (hA:(if c=k then A else A.map λx=>x.add k)=A'):
 CN (w.setCell ⟨b,3,none⟩ (.slice A' (n-k) (c-k))) ow b {M with fed:=M.fed.drop k} {L with fed:=.slice A' (n-k) (c-k)}/\Fr w ow (w.setCell ⟨b,3,none⟩ (.slice A' (n-k) (c-k))) ow:=
 have hz:=h.p.fed
 h.cell (M':={M with fed:=M.fed.drop k}) (L':={L with fed:=.slice A' (n-k) (c-k)}) 3 _ rfl ⟨hA▸(hL▸hz).cut hk,h.p.out,h.p.ev,h.p.inw,h.p.ti,h.p.outw,h.p.tu,h.p.map,h.p.tm,h.p.strs,h.p.lst,h.p.enc,h.p.dec⟩
theorem CN.unlist0 (h:CN w ow b M L):CN (w.setCell ⟨b,16,none⟩ (.pointer none)) ow b {M with list:=none} {L with list:=.pointer none}/\Fr w ow (w.setCell ⟨b,16,none⟩ (.pointer none)) ow:=
 h.cell (M':={M with list:=none}) (L':={L with list:=.pointer none}) 16 _ rfl ⟨h.p.fed,h.p.out,h.p.ev,h.p.inw,h.p.ti,h.p.outw,h.p.tu,h.p.map,h.p.tm,h.p.strs,rfl,h.p.enc,h.p.dec⟩
theorem CN.clears (h:CN w ow b M L) (ty:TypeId):∃w',(Builtin.clear_ #[74] ty #[.map (some L.mb)]).run Tryz.prog w= .ok (.tuple #[]) w'/\CN w' ow b {M with strs:=[]} L/\Fr w ow w' ow:=by
 obtain⟨w',h0,hm,hg,hsz⟩:=h.p.map.clear Tryz.underlying74 ty;have k:=Kp.row h hg (t:=.map) (λg e=>by injection e with e;rw[<-e];exact h.p.tm);have h1:=h.blkK k (by decide);refine⟨w',h0,⟨h1.1,h1.2,⟨h.p.fedK k (by decide),h.p.outK k (by decide),h.p.evK k (by decide) (by decide),(h.p.inwK k (by decide)).1,(h.p.inwK k (by decide)).2,(h.p.outwK k (by decide)).1,(h.p.outwK k (by decide)).2,
  hm,h.p.tm,(λs hs=>by cases hs),h.p.lstK k (by decide) (by decide),h.p.encK k (by decide),h.p.decK k (by decide)⟩,λg h2=>h.new g (by omega)⟩,Fr.grown hg λg e=>by injection e with e;rw[<-e,h.p.tm];decide⟩
end
theorem faulty_dead (w:World) (ow:Nat->Tg) (b:Nat) (M:Cv) (L:Lay) (c:Nat) (h:CN w ow b M L) (hc:c<4294967296) (hl:M.last<=2147483647) (ho:M.out.length<=1000000000) (hn:M.evs.length<=900000):
 Calls Tryz.prog 69 #[.pointer (some ⟨b,0,none⟩),.agg #[.int .i64 (c:Nat),.int .i64 0]] w (CPost w ow b (deadM M c) (.tuple #[])):=by
 have HX:=hid (Blk.new w 143 #[.int .i64 (c:Nat),.int .i64 0]);have h2:=hid ((Below.refl w.heap.size w).alloc (Nat.le_refl _) (.cells #[.int .i64 (c:Nat),.int .i64 0] 143));have HC:=hid h;have HH:=hid (show _/\_/\_/\_ from⟨hc,hl,ho,hn⟩);have h3:=hid (h.new w.heap.size (Nat.le_refl _));clear h hc hl ho hn;go_enter Tryz.func69,Tryz.ntmps69;go_upto_region 1 with fail;generalize w.alloc (.cells #[.int .i64 (c:Nat),.int .i64 0] 143)=W0 at*
 have h1:=hid (HC.out.below h2.out);have x0:W0.cell? ⟨w.heap.size,0,none⟩=some (.int .i64 (c:Nat)):=HX.out.cell 0;have x1:W0.cell? ⟨w.heap.size,1,none⟩=some (.int .i64 0):=HX.out.cell 1;have c15:W0.cell? ⟨b,15,none⟩=some (.map (some L.mb)):=h1.out.blk.cell 15;have h4:=λn=>look_str (h1.out.drewN n) 0 (by decide);obtain⟨v,hv⟩:∃v,atI (M.strs.map (·.id)) (sptr L) (.pointer none) 0=v:=⟨_,rfl⟩;rw[hv]at h4;clear hv;go_quiet (fail);have he:=hid (λn=>bound_any (W0.drewN n) ow b M L c (h1.out.drewN n) HH.out.1 HH.out.2.1 HH.out.2.2.1);have c0':=x0;go_upto_region 9 with(first
  |(go_at_call 112
    refine(he.out _).mono ?_;intro e w2 hp;obtain rfl:=hp.ret;obtain⟨ow2,L2,_,h5,h6⟩:=hp;have hf:=hid h5;have h7:=hid ((Fr.drewN W0 ow _).trans h6);have y0:w2.cell? ⟨w.heap.size,0,none⟩=some (.int .i64 (c:Nat)):=(h7.out.blk HX.out h3.out).cell 0;clear h5 h6)
  |fail)
 have HT:=tell_anyL w2 ow2 b _ L2 {kind:=8,code:=c} hf.out (evOk_plain w2 ow2 8 0 c 0 false) HH.out.2.2.2;rw[evC_plain]at HT;refine HT.mono ?_;intro e w3 hp;obtain rfl:=hp.cp.ret;obtain⟨ow3,L3,_,h8,h9,_⟩:=hp;have h0:=hid h8;have hb:=hid (h7.out.trans h9);have z0:w3.cell? ⟨w.heap.size,0,none⟩=some (.int .i64 (c:Nat)):=(hb.out.blk HX.out h3.out).cell 0;clear h8 h9 HT;go_upto_region 9 with fail;have g19:=h0.out.blk.frozen 19;have g20:=h0.out.blk.frozen 20;have g3:=h0.out.blk.frozen 3;have g16:=h0.out.blk.frozen 16;have k19:w3.cell? ⟨b,19,none⟩=some (.bool M.dead):=h0.out.blk.cell 19;have k20:w3.cell? ⟨b,20,none⟩=some (.int .i64 (M.code:Nat)):=h0.out.blk.cell 20;have k3:w3.cell? ⟨b,3,none⟩=some L3.fed:=h0.out.blk.cell 3;have k16:w3.cell? ⟨b,16,none⟩=some L3.list:=h0.out.blk.cell 16;clear c0' x0 x1 c15 h4 y0;go_region;all_goals
  have a1:=h0.out.dies;have a2:=a1.1.codes c;have a3:=a2.1.unfeds;have a4:=a3.1.unlist0;have hd:=hid (show CN (((((w3.setCell ⟨b,19,none⟩ (.bool true)).setCell ⟨b,20,none⟩ (.int .i64 (c:Nat))).setCell ⟨b,3,none⟩ (.slice none 0 0)).setCell ⟨b,16,none⟩ (.pointer none)).drew) ow3 b _ _ from a4.1.drew);have hh:=hid ((((hb.out.trans a1.2).trans a2.2).trans a3.2).trans a4.2).drew;clear a1 a2 a3 a4 g19 g20 g3 g16 k19 k20 k3 k16 z0;generalize ((((w3.setCell ⟨b,19,none⟩ (.bool true)).setCell ⟨b,20,none⟩ (.int .i64 (c:Nat))).setCell ⟨b,3,none⟩ (.slice none 0 0)).setCell ⟨b,16,none⟩ (.pointer none)).drew=W4 at*
  have k15:W4.cell? ⟨b,15,none⟩=some (.map (some L3.mb)):=hd.out.blk.cell 15;obtain⟨w5,hk,hi,hj⟩:=hd.out.clears 0;go_wp2;go_end0;exact⟨ow3,_,rfl,hi,(Fr.below h2.out ow).trans (hh.out.trans hj)⟩
end Go.Proofs.YtkpppjhbmnfmkaaGreatDoor
end

section
set_option maxHeartbeats 1000000
set_option maxRecDepth 100000
namespace Go.Proofs.YtkpppjhbmnfmkaaGreatDoor
open Lib (hid)
open Go.RowKit Go.Own Go.Own.Im Go.Own.Cx Go.Own.Fr
theorem step1_idle (a b:Addr) (w:World):
 CallsD Tryz.prog 68 #[.pointer (some a),.pointer (some b)] .returning w λe u' w'=>e= .returned (.tuple #[])/\u'= .returning/\w'=w:=by
 refine callsD_of_wpS Tryz.func68 rfl λc₀ cs hu=>?_;apply wpS_seq;apply wpS_region;simp[wpOpsS,go_sem,recoverD,hu,Tryz.ntmps68,Exit.thenS];apply wpS_seq;apply wpS_region;simp[wpOpsS,go_sem,Exit.thenS];refine wpS_cond (t:=false) (by simp[Act.eval,Array.replicate]) ?_;simp only[Bool.false_eq_true,if_false];refine wpS_of_wp (wp_skip ?_);cases c₀;simp_all[bodyPostS,results,Tryz.results68]
theorem assert_fault (v:Value) (w:World):(Instr.typeAssert (.iface 143 v) 20 143 true).run Tryz.prog w= .ok (.tuple #[v,.bool true]) w:=by
 simp[Instr.typeAssert,go_sem]
theorem step1_fault (w:World) (ow:Nat->Tg) (b gm gc:Nat) (M:Cv) (S:Cv->Prop) (L:Lay) (c s:Nat) (x:Bool) (h:CN w ow b M L) (hm:Blk w gm 4 #[.bool x]) (hc:Blk w gc 26 #[.pointer (some ⟨b,0,none⟩)]) (h5:ow gm= .no) (hne:gc≠gm)
 (hf:∀W,CN W ow b M L->Fr (w.setCell ⟨gm,0,none⟩ (.bool true)) ow W ow->Calls Tryz.prog 69 #[.pointer (some ⟨b,0,none⟩),.agg #[.int .i64 (c:Nat),.int .i64 (s:Nat)]] W (CPostS W ow b S (.tuple #[]))):
 CallsD Tryz.prog 68 #[.pointer (some ⟨gm,0,none⟩),.pointer (some ⟨gc,0,none⟩)] (.panicking (fltE c s)) w λe u' w'=>
  e= .returned (.tuple #[])/\u'= .panicking [{v:=.iface 143 (.agg #[.int .i64 (c:Nat),.int .i64 (s:Nat)]),recovered:=true}]/\CPostS (w.setCell ⟨gm,0,none⟩ (.bool true)) ow b S (.tuple #[]) e w':=by
 have h0:w.cell? ⟨gm,0,none⟩=some (.bool x):=hm.cell 0;have h3:=hm.frozen 0;have h8:w.cell? ⟨gc,0,none⟩=some (.pointer (some ⟨b,0,none⟩)):=hc.cell 0;have h9:=hm.lt;have HF:=hid hf;have HC:=hid h;have hk:=assert_fault (.agg #[.int .i64 (c:Nat),.int .i64 (s:Nat)]);clear h hf;refine callsD_of_wpS Tryz.func68 rfl λc₀ cs hu=>?_;change Code.wpS _ _ _ {tmps:=#[.pointer (some ⟨gm,0,none⟩),.pointer (some ⟨gc,0,none⟩),undef,undef,undef,undef,undef,undef,undef,undef,undef,undef,undef,undef,undef,undef,undef,undef,undef],defers:=[]} _ _;apply wpS_seq;apply wpS_region;simp[wpOpsS,go_sem,recoverD,hu,fltE,Tryz.ntmps68,Exit.thenS];apply wpS_seq;apply wpS_region;simp[wpOpsS,go_sem,Exit.thenS];refine wpS_cond (t:=true) (by simp[Act.eval,Array.replicate]) ?_;simp only[if_true];refine wpS_of_wp ?_;go_upto_region 5 with fail;have hl:=HC.out.blk.lt;have hb:gm≠w.heap.size:=by omega
 have hn:=hc.lt;have ho:gm≠b:=λe=>by have h1:=h5;rw[e,HC.out.tb]at h1;cases h1
 have HX:=hid (Blk.new w 143 #[.int .i64 (c:Nat),.int .i64 (s:Nat)]);have HM:=hid (hm.alloc (.cells #[.int .i64 (c:Nat),.int .i64 (s:Nat)] 143));have hd:=hid (hc.alloc (.cells #[.int .i64 (c:Nat),.int .i64 (s:Nat)] 143));have he:=hid (HC.out.alloc (.cells #[.int .i64 (c:Nat),.int .i64 (s:Nat)] 143));have h6:=hid (show Fr (w.setCell ⟨gm,0,none⟩ (.bool true)) ow ((w.alloc (.cells #[.int .i64 (c:Nat),.int .i64 (s:Nat)] 143)).setCell ⟨gm,0,none⟩ (.bool true)) ow from
  ⟨rfl,rfl,rfl,by simp[World.setCell],λj hj _=>by
    have hh:j<w.heap.size:=by simpa [World.setCell]using hj
    by_cases e:j=gm
    · subst e
      have h1:=hm.put 0 (.bool true);have h2:=(hm.alloc (.cells #[.int .i64 (c:Nat),.int .i64 (s:Nat)] 143)).put 0 (.bool true);exact h2.trans h1.symm
    · rw[Below.heap_setCell _ _ _ j e,Below.heap_setCell _ _ _ j e]
      exact Below.heap_alloc w _ j hh,λ_ _ h=>h⟩)
 clear h0 h3 h8 h9;generalize w.alloc (.cells #[.int .i64 (c:Nat),.int .i64 (s:Nat)] 143)=W0 at*
 have h0:W0.cell? ⟨gm,0,none⟩=some (.bool x):=HM.out.cell 0;have h3:=HM.out.frozen 0;go_upto_region 6 with fail;have h7:=hid (HX.out.far (p:=⟨gm,0,none⟩) (λe=>hb e.symm) (.bool true));have h4:=hid (hd.out.far (p:=⟨gm,0,none⟩) hne (.bool true));have hi:=hid (show CN (W0.setCell ⟨gm,0,none⟩ (.bool true)) ow b M L from he.out.keep (by simp[World.setCell]) λg hg _=>Below.heap_setCell _ _ _ g (λe=>hg (by rw[e];exact h5)));clear h0 h3;generalize W0.setCell ⟨gm,0,none⟩ (.bool true)=W1 at*
 have q0:W1.cell? ⟨w.heap.size,0,none⟩=some (.int .i64 (c:Nat)):=h7.out.cell 0;have q1:W1.cell? ⟨w.heap.size,1,none⟩=some (.int .i64 (s:Nat)):=h7.out.cell 1;have q2:W1.cell? ⟨gc,0,none⟩=some (.pointer (some ⟨b,0,none⟩)):=h4.out.cell 0;go_wp2_with fail;refine(HF.out W1 hi.out h6.out).mono ?_;intro e w2 hp;obtain rfl:=hp.ret;have HQ:=hid (hp.trans h6.out);clear hp;go_wp2;exact⟨rfl,_,rfl,.tuple #[],by simp[results,Tryz.results68],rfl,rfl,HQ.out⟩
end Go.Proofs.YtkpppjhbmnfmkaaGreatDoor
end

section
set_option maxHeartbeats 8000000
set_option maxRecDepth 100000
namespace Go.Proofs.YtkpppjhbmnfmkaaGreatDoor
open Lib (hid)
open Go.RowKit Go.Own Go.Own.Im Go.Own.Cx Go.Own.Fr
theorem results_step (tmps:Array Value) (w:World) (g:Nat) (a:Value) (h2:tmps[2]?=some (.pointer (some ⟨g,0,none⟩))) (c1:w.cell? ⟨g,0,none⟩=some a):
 (results Tryz.f40 tmps).run Tryz.prog w= .ok a w:=by
 simp[results,Tryz.results40,go_sem,h2,c1]
theorem prefB_at {k:Nat} {x:UInt8} (h:prefB[k]?=some x):k<24:=by
 have:=(List.getElem?_eq_some_iff.1 h).1
 simpa [prefB]using this
theorem CN.prefs {w:World} {ow:Nat->Tg} {b:Nat} {M:Cv} {L:Lay} (h:CN w ow b M L) (k:Nat):CN (w.setCell ⟨b,5,none⟩ (.int .i64 (k:Nat))) ow b {M with preface:=k} L/\Fr w ow (w.setCell ⟨b,5,none⟩ (.int .i64 (k:Nat))) ow:=h.cell 5 _ rfl h.p
theorem CN.nos {w:World} {ow:Nat->Tg} {b:Nat} {M:Cv} {L:Lay} (h:CN w ow b M L) {g:Nat} (hg:ow g= .no) (i:Nat) (v:Value):CN (w.setCell ⟨g,i,none⟩ v) ow b M L:=
 h.keep (by simp[World.setCell]) λj hj _=>Below.heap_setCell _ _ _ j (λe=>hj (by rw[e];exact hg))
theorem _root_.Go.Own.Cx.Fr.put {w w1:World} {ow ow1:Nat->Tg} (h:Fr w ow w1 ow1) {g:Nat} (hg:w.heap.size<=g) (i:Nat) (v:Value):Fr w ow (w1.setCell ⟨g,i,none⟩ v) ow1:=
 ⟨h.os,h.tape,h.output,by have:=h.size;simp[World.setCell];exact this,λj hj ho=>(Below.heap_setCell _ _ _ j (λe=>by have e:j=g:=e;omega)).trans (h.keep j hj ho),h.no⟩
theorem step_pref (M:Cv) (x:UInt8) (l:List UInt8) (hx:prefB[M.preface]?=some x) (hl:M.fed=x::l):StepT M true (λM'=>M'={M with preface:=M.preface+1,fed:=l}):=by
 intro w ow b L hE h;have hi:=hid (((Below.refl w.heap.size w).alloc (Nat.le_refl _) (.cells #[.pointer (some ⟨b,0,none⟩)] 26)).alloc (by simp) (.cells #[.bool false] 4));have X0:=hid ((Blk.new w 26 #[.pointer (some ⟨b,0,none⟩)]).alloc (.cells #[.bool false] 4));have X1:=hid (Blk.new (w.alloc (.cells #[.pointer (some ⟨b,0,none⟩)] 26)) 4 #[.bool false]);have HC:=hid h;have ho:=hid hx;have HL:=hid hl;have hc:=prefB_at hx;clear h hx hl hE;simp only[World.size_alloc]at X1;go_enter_defers Tryz.func40,Tryz.ntmps40;go_upto_region 1 with fail;generalize (w.alloc (.cells #[.pointer (some ⟨b,0,none⟩)] 26)).alloc (.cells #[.bool false] 4)=W0 at*
 have HP:=hid (preface_any W0);go_wp2_with fail;refine HP.out.mono ?_;rintro e w1 ⟨rfl,hj,h7⟩;have hk:=hid (hi.out.trans (h7.mono hi.out.size));have h2:=hid (HC.out.below hk.out);have hm:=hid (X0.out.below h7 X0.out.lt);have hq:=hid (X1.out.below h7 X1.out.lt);have h3:=h2.out.p.fed;rw[HL.out]at h3;obtain⟨A0,c0,h8,hd,_⟩:=h3.form;rw[h8]at h3;obtain⟨ad,rfl,_,hcell⟩:=h3.rd.at_ (k:=0) (Nat.succ_pos _);have hcell:w1.cell? ad=some (.int .u8 (x.toNat:Int)):=hcell;obtain⟨ad2,e2,_,h4⟩:=hj.at_ (k:=M.preface) hc;injection e2 with e2
 subst e2;have h4:w1.cell? ⟨W0.heap.size,M.preface,none⟩=some (.int .u8 (x.toNat:Int)):=by
  have h1:prefB.getD M.preface 0=x:=by rw[List.getD,ho.out];rfl
  rw[h1]at h4;rw[Addr.add_lit,Nat.zero_add]at h4;exact h4
 have c3:w1.cell? ⟨b,3,none⟩=some L.fed:=h2.out.blk.cell 3;rw[h8]at c3;have c3:w1.cell? ⟨b,3,none⟩=some (.slice (some ad) (l.length+1) c0):=c3;have c5:w1.cell? ⟨b,5,none⟩=some (.int .i64 (M.preface:Nat)):=h2.out.blk.cell 5;have x0:w1.cell? ⟨w.heap.size,0,none⟩=some (.pointer (some ⟨b,0,none⟩)):=hm.out.cell 0;have f5:=h2.out.blk.frozen 5;have hn:=hid h8;have hs:(M.preface:Int)<24:=by omega
 have ht:wrap64 ((M.preface:Int)+1)=((M.preface+1:Nat):Int):=by unfold wrap64;omega
 have hu:IntKind.i64.wrap ((M.preface:Int)+1)=((M.preface+1:Nat):Int):=by rw[IntKind.wrap_i64];omega
 clear h3 hj h8 h7;go_wp2_with fail;go_quiet (fail);go_upto_region 9 with fail;rw[show((M.preface:Int)+1)=((M.preface+1:Nat):Int)from rfl];have a1:=(h2.out.drewN nq).prefs (M.preface+1);have h9:=hid a1.1;have hw:=hid (((Fr.below hk.out ow).trans (Fr.drewN _ ow nq)).trans a1.2);have hA:w.heap.size≠b:=by have:=HC.out.blk.lt;omega
 have h5:w.heap.size+1≠b:=by have:=HC.out.blk.lt;omega
 have he:=hid ((hm.out.drewN nq).far (p:=⟨b,5,none⟩) hA (.int .i64 ((M.preface+1:Nat):Int)));have hf:=hid ((hq.out.drewN nq).far (p:=⟨b,5,none⟩) h5 (.int .i64 ((M.preface+1:Nat):Int)));obtain⟨A',hb⟩:∃A',(if c0=1 then some ad else(some ad).map λy=>y.add 1)=A':=⟨_,rfl⟩;have hh:∀W,(Instr.slice 22 (.slice (some ad) (l.length+1) c0) (some (.int .i64 1)) none none).run Tryz.prog W= .ok (.slice A' l.length (c0-1)) W:=λW=>by
  have:=run_from (P:=Tryz.prog) (t:=22) byteP (some ad) (l.length+1) c0 1 (by omega) hd W;rw[hb]at this;exact this
 have HA:=hid hb;clear a1 c3 c5 x0 f5 hcell h4 hs ht hu hb;generalize (w1.drewN nq).setCell ⟨b,5,none⟩ (.int .i64 ((M.preface+1:Nat):Int))=W2 at*
 have c3:W2.cell? ⟨b,3,none⟩=some L.fed:=h9.out.blk.cell 3;rw[hn.out]at c3;have c3:W2.cell? ⟨b,3,none⟩=some (.slice (some ad) (l.length+1) c0):=c3;have f3:=h9.out.blk.frozen 3;have x0:W2.cell? ⟨w.heap.size,0,none⟩=some (.pointer (some ⟨b,0,none⟩)):=he.out.cell 0;go_wp2_with fail;go_region;all_goals
  have h6:M.fed.drop 1=l:=by rw[HL.out];rfl
  have a2:=h9.out.cuts (k:=1) hn.out (Nat.succ_le_succ (Nat.zero_le _)) HA.out;have a3:CN ((W2.setCell ⟨b,3,none⟩ (.slice A' l.length (c0-1))).drew) ow b {M with preface:=M.preface+1,fed:=M.fed.drop 1} {L with fed:=.slice A' l.length (c0-1)}:=a2.1.drew;rw[h6]at a3;have hC:=hid a3;have hD:=hid (show Fr w ow ((W2.setCell ⟨b,3,none⟩ (.slice A' l.length (c0-1))).drew) ow from(hw.out.trans a2.2).drew);have h0:=hid (show Blk ((W2.setCell ⟨b,3,none⟩ (.slice A' l.length (c0-1))).drew) (w.heap.size+1) 4 #[.bool false]from hf.out.far (p:=⟨b,3,none⟩) h5 _);clear a2 a3 c3 f3 x0 hh;generalize (W2.setCell ⟨b,3,none⟩ (.slice A' l.length (c0-1))).drew=W3 at*
  have y0:W3.cell? ⟨w.heap.size+1,0,none⟩=some (.bool false):=h0.out.cell 0;have yf:=h0.out.frozen 0;go_wp2;refine leaves_cons (f:=68) (args:=#[.pointer (some ⟨w.heap.size+1,0,none⟩),.pointer (some ⟨w.heap.size,0,none⟩)]) (by simp) (by simp[go_sem]) ?_;refine(step1_idle _ _ _).mono ?_;rintro e u' w'' ⟨rfl,rfl,rfl⟩;exact⟨_,results_step _ _ (w.heap.size+1) _ rfl ((h0.out.put 0 _).cell 0),_,rfl,ow,_,rfl,hC.out.nos (HC.out.new _ (by omega)) 0 _,hD.out.put (by omega) 0 _⟩
theorem step_few (M:Cv) (hp:M.preface=24) (hl:M.fed.length<9):StepT M false (λM'=>M'=M):=by
 intro w ow b L hE h;have hc:=hid (((Below.refl w.heap.size w).alloc (Nat.le_refl _) (.cells #[.pointer (some ⟨b,0,none⟩)] 26)).alloc (by simp) (.cells #[.bool false] 4));have X0:=hid ((Blk.new w 26 #[.pointer (some ⟨b,0,none⟩)]).alloc (.cells #[.bool false] 4));have X1:=hid (Blk.new (w.alloc (.cells #[.pointer (some ⟨b,0,none⟩)] 26)) 4 #[.bool false]);have HC:=hid h;have hi:=hid hp;have HL:=hid hl;have HE:=hid hE;clear h hl hp hE;simp only[World.size_alloc]at X1;go_enter_defers Tryz.func40,Tryz.ntmps40;go_upto_region 1 with fail;generalize (w.alloc (.cells #[.pointer (some ⟨b,0,none⟩)] 26)).alloc (.cells #[.bool false] 4)=W0 at*
 have HP:=hid (preface_any W0);go_wp2_with fail;refine HP.out.mono ?_;rintro e w1 ⟨rfl,hj,h3⟩;have h4:=hid (hc.out.trans (h3.mono hc.out.size));have h5:=hid (HC.out.below h4.out);have hk:=hid (X0.out.below h3 X0.out.lt);have hd:=hid (X1.out.below h3 X1.out.lt);have he:=hid (HE.out.fr (Fr.below h4.out ow));have h6:=h5.out.p.fed;obtain⟨A0,c0,h7,h8,_⟩:=h6.form;rw[h7]at h6;have hm:=hid h6.rd;have c3:w1.cell? ⟨b,3,none⟩=some L.fed:=h5.out.blk.cell 3;rw[h7]at c3;have c5:w1.cell? ⟨b,5,none⟩=some (.int .i64 (M.preface:Nat)):=h5.out.blk.cell 5;rw[hi.out]at c5;have x0:w1.cell? ⟨w.heap.size,0,none⟩=some (.pointer (some ⟨b,0,none⟩)):=hk.out.cell 0;obtain⟨ae,al,h0⟩:=he.out.ends;have hn:=hid h0;have HG:=hid (show 10<w1.heap.size from Nat.lt_of_lt_of_le (by decide) he.out.room);have h9:=hid (fget_few A0 M.fed.length c0 M.fed w1 w1.heap.size 16384 _ hm.out (Nat.le_refl _) h8 (.inl HL.out) (by decide) h0.e HG.out);clear h6 hj h3 h7;go_wp2_with fail;refine h9.out.mono ?_;rintro e w2 ⟨rfl,h2⟩;have ho:=hid (h5.out.below h2);have hb:=hid (hd.out.below h2 hd.out.lt);have hf:=hid (h4.out.trans (h2.mono h4.out.size));have hq:=hid (hf.out.alloc hf.out.size (.cells #[.int .i64 0,.int .i64 0,.int .i64 0,.slice none 0 0] 24));have hh:=hid ((hn.out.fr (Fr.below h2 ow)).fr (Fr.below ((Below.refl w2.heap.size w2).alloc (Nat.le_refl _) (.cells #[.int .i64 0,.int .i64 0,.int .i64 0,.slice none 0 0] 24)) ow));have hs:=hid (ho.out.alloc (.cells #[.int .i64 0,.int .i64 0,.int .i64 0,.slice none 0 0] 24));have h1:=hid (hb.out.alloc (.cells #[.int .i64 0,.int .i64 0,.int .i64 0,.slice none 0 0] 24));clear c3 c5 x0 h2 h0;go_upto_region 12 with fail;generalize w2.alloc (.cells #[.int .i64 0,.int .i64 0,.int .i64 0,.slice none 0 0] 24)=W3 at*
 have g1:=hh.out.l;have ht:=hh.out.eql;have y0:W3.cell? ⟨w.heap.size+1,0,none⟩=some (.bool false):=h1.out.cell 0;have yf:=h1.out.frozen 0;go_wp2;refine leaves_cons (f:=68) (args:=#[.pointer (some ⟨w.heap.size+1,0,none⟩),.pointer (some ⟨w.heap.size,0,none⟩)]) (by simp) (by simp[go_sem]) ?_;refine(step1_idle _ _ _).mono ?_;rintro e u' w'' ⟨rfl,rfl,rfl⟩;exact⟨_,results_step _ _ (w.heap.size+1) _ rfl ((h1.out.put 0 _).cell 0),M,rfl,ow,_,rfl,hs.out.nos (HC.out.new _ (by omega)) 0 _,(Fr.below hq.out ow).put (by omega) 0 _⟩
end Go.Proofs.YtkpppjhbmnfmkaaGreatDoor
end

section
set_option maxHeartbeats 8000000
set_option maxRecDepth 100000
namespace Go.Proofs.YtkpppjhbmnfmkaaGreatDoor
open Lib (hid)
open Go.RowKit Go.Own Go.Own.Im Go.Own.Cx Go.Own.Fr
attribute [local go_sem] Oper.semAt_some
theorem CN.greets {w:World} {ow:Nat->Tg} {b:Nat} {M:Cv} {L:Lay} (h:CN w ow b M L):CN (w.setCell ⟨b,4,none⟩ (.bool true)) ow b {M with greeted:=true} L/\Fr w ow (w.setCell ⟨b,4,none⟩ (.bool true)) ow:=h.cell 4 _ rfl h.p
theorem zero_do (w:World):(zeroValue 200).run Tryz.prog w= .ok .nilFunc w:=by kernel_rfl
theorem neq_func (f:Fn) (a c:Array Value) (w:World):(binOp .neq 200 (.func f a c) .nilFunc).run Tryz.prog w= .ok (.bool true) w:=by
 rfl
theorem assert_nil (w:World):(Instr.typeAssert .nilIface 28 196 true).run Tryz.prog w= .ok (.tuple #[.pointer none,.bool false]) w:=by
 simp[Instr.typeAssert,go_sem]
theorem look_wk {w:World} {g m b t:Nat} {v:Value} (h:HM Tryz.prog 3 w g 9 (wkF m b)) (ht:t<=255) (hv:wkF m b (t:Int)=some v):
 (Instr.lookup 201 (.map (some g)) (.int .i64 (t:Int)) false).run Tryz.prog w= .ok v w:=by
 have hw:(Lit.int .i64 (t:Int)).wf=true:=by simp[Lit.wf,IntKind.min,IntKind.max,IntKind.bits,IntKind.signed];omega
 have:=h.look Tryz.underlying201 Tryz.underlying3 (zero_do w) hw;rw[hv]at this;exact this
theorem takes_any (w:World) (ow:Nat->Tg) (b:Nat) (M:Cv) (L:Lay) (Q:Ending->World->Prop) (t f s K:Nat) (fst:Array Value) (cap:Nat->Array Value) (A:Option Addr) (n c:Nat) (l:List UInt8) (j:Inf)
 (h:CN w ow b M L) (hr:Rd w w.heap.size A n l) (hO:0<n->∀ad,A=some ad->ow ad.block= .no) (hc:n<=c) (hn:n<=16384) (ht:t<=255) (hf:f<=255) (hs:s<=2147483647) (hp:hasF t f 8=false) (hk:t≠2/\t≠5/\(t=1->hasF t f 32=false)) (hl:M.list=none) (h9:t≠9)
 (hu:M.greeted=true\/(t=4/\f&&& 1=0)) (ho:opn t f s l= .ok j) (hP:∀g,wkF g b (t:Int)=some (.func (.func K) fst (cap g))) (hE:Enters Tryz.prog K)
 (h8:∀e w',Q e w'->e= .returned (.tuple #[])\/∃cs,e= .panicked cs)
 (hw:∀W g sv dv,CN W ow b {M with greeted:=true} L->Fr w ow W ow->Blk W g 26 #[.pointer (some ⟨b,0,none⟩)]->w.heap.size<=g->SetO W w.heap.size sv j.sets->Ow W w.heap.size 5 dv j.data.length j.data->
   Calls Tryz.prog K (fst++(#[.agg (infC j sv dv),.int .i64 (n:Nat)]++cap g)) W Q):
 Calls Tryz.prog 72 #[.pointer (some ⟨b,0,none⟩),.agg #[.int .i64 (t:Nat),.int .i64 (f:Nat),.int .i64 (s:Nat),.slice A n c]] w Q:=by
 have Hm:=assert_nil;have hE:∀args w,(callFunc K args).run Tryz.prog w= .ok (.enter K args) w:=hE;have HX:=hid (Blk.new w 24 #[.int .i64 (t:Nat),.int .i64 (f:Nat),.int .i64 (s:Nat),.slice A n c]);have hQ:=hid ((Below.refl w.heap.size w).alloc (Nat.le_refl _) (.cells #[.int .i64 (t:Nat),.int .i64 (f:Nat),.int .i64 (s:Nat),.slice A n c] 24));have HC:=hid h;have HR:=hid hr;have H1:=hid hO;have HW:=hid hw;have hI:=hid h8;have hR:=hid hP;have HO:=hid ho;have HH:=hid (show _/\_/\_/\_/\_/\_/\_ from⟨hc,hn,ht,hf,hs,hp,hk⟩);have e1:bits .and .i64 (f:Int) 1=((f&&& 1:Nat):Int):=and_nat f 1 (by omega) (by omega);obtain⟨q,hq⟩:∃q,f&&& 1=q:=⟨_,rfl⟩;rw[hq]at e1 hu;have hS:M.greeted=true\/(((t:Int) != 4)=false/\((q:Int) != 0)=false):=by
  rcases hu with hg|⟨h1,h2⟩
  · exact .inl hg
  · subst h1 h2;exact .inr ⟨rfl,rfl⟩
 have Hn:((t:Int)==9)=false:=by simp;omega
 have HL:=hid (show L.list= .pointer none from by have:=h.p.lst;rw[hl]at this;exact this);have H2:=hid hS;clear h hr hO hw h8 hP ho hc hn ht hf hs hp hk hl h9 hu hq hS;go_enter Tryz.func72,Tryz.ntmps72;go_upto_region 1 with fail;generalize w.alloc (.cells #[.int .i64 (t:Nat),.int .i64 (f:Nat),.int .i64 (s:Nat),.slice A n c] 24)=W0 at*
 have hh:=hid (HC.out.below hQ.out);have x0:W0.cell? ⟨w.heap.size,0,none⟩=some (.int .i64 (t:Nat)):=HX.out.cell 0;have x1:W0.cell? ⟨w.heap.size,1,none⟩=some (.int .i64 (f:Nat)):=HX.out.cell 1;have x2:W0.cell? ⟨w.heap.size,2,none⟩=some (.int .i64 (s:Nat)):=HX.out.cell 2;have c3:W0.cell? ⟨b,3,none⟩=some L.fed:=hh.out.blk.cell 3;have c4:W0.cell? ⟨b,4,none⟩=some (.bool M.greeted):=hh.out.blk.cell 4;have f4:=hh.out.blk.frozen 4;cases hi:M.greeted
 case' false=>
  have hA:=H2.out;rw[hi]at hA c4;obtain⟨H3,H4⟩:=hA.resolve_left (by decide);clear hA hi;go_upto_region 5 with fail;clear H3 H4
 case' true=>
  rw[hi]at c4;clear hi;go_upto_region 5 with fail
 all_goals
  have hC:=hh.out.greets;have hT:=hid hC.1;have hj:=hid ((Fr.below hQ.out ow).trans hC.2);have h0:=hid (HX.out.far (p:=⟨b,4,none⟩) (by have:=HC.out.blk.lt;show w.heap.size≠b;omega) (.bool true));clear hC x0 x1 x2 c3 c4 f4;generalize W0.setCell ⟨b,4,none⟩ (.bool true)=W1 at*
  have x0:W1.cell? ⟨w.heap.size,0,none⟩=some (.int .i64 (t:Nat)):=h0.out.cell 0;have x1:W1.cell? ⟨w.heap.size,1,none⟩=some (.int .i64 (f:Nat)):=h0.out.cell 1;have x2:W1.cell? ⟨w.heap.size,2,none⟩=some (.int .i64 (s:Nat)):=h0.out.cell 2;have x3:W1.cell? ⟨w.heap.size,3,none⟩=some (.slice A n c):=h0.out.cell 3;have c16:W1.cell? ⟨b,16,none⟩=some L.list:=hT.out.blk.cell 16;rw[HL.out]at c16;go_wp2_with fail;go_quiet (fail);have hJ:=hid (λn1=>open_more t f s A n c w.heap.size l (W1.drewN n1) (hj.out.rd HR.out (Nat.le_refl _) H1.out) hj.out.size HH.out.1 (by have:=HH.out.2.1;omega) HH.out.2.2.1 HH.out.2.2.2.1 HH.out.2.2.2.2.1 HH.out.2.2.2.2.2.1 HH.out.2.2.2.2.2.2);go_upto_region 8 with fail;go_wp2_with fail;refine(hJ.out _).mono ?_;intro e w2 hp;obtain⟨hU,hm⟩:=hp;simp only[HO.out]at hm;obtain⟨sv,dv,rfl,hD,hF⟩:=hm;obtain⟨A5,c5,rfl,_,_⟩:=hD.form;obtain⟨A6,c6,rfl,_,_,_⟩:=hF.form;have h4:=hid (show Below W1.heap.size W1 w2 from bdN (Below.refl W1.heap.size W1) _ |>.trans hU);have H5:=hid hD;have hV:=hid hF;have H7:=hid (hT.out.below h4.out);have H8:=hid (hj.out.trans (Fr.below h4.out ow));clear hU hD hF x0 x1 x2 x3 c16;go_upto_region 12 with(first
   |(refine wpList_rowPut _ rfl (.tmp 6) (.tmp 72) 91 rfl w2.heap.size 91 (infC {} (.slice none 0 0) (.slice none 0 0)) _ rfl rfl (Blk.new w2 91 _) infSize rfl (infC_one _ _ _ _ _ _ _) ?_
     intro W3 hW hX;have hY:=hid hW;have h5:=hid (((Below.refl w2.heap.size w2).alloc (Nat.le_refl _) (.cells (infC {} (.slice none 0 0) (.slice none 0 0)) 91)).grown hX (by simp) (λg e=>by injection e with e;omega));clear hW hX)
   |fail)
  have hK:=hid (h4.out.trans (h5.out.mono h4.out.size));have H9:=hid (H7.out.below h5.out);have h3:=hid (h0.out.below hK.out h0.out.lt);have Ha:=hid (H8.out.trans (Fr.below h5.out ow));have Hb:=hid (show W3.cell? ⟨w.heap.size,0,none⟩=some (.int .i64 (t:Nat))from h3.out.cell 0);have hL:=hid (show W3.drew.cell? ⟨w.heap.size,0,none⟩=some (.int .i64 (t:Nat))from h3.out.cell 0);have Hc:=hid (λW=>works_any b W);go_region_held3 (λW'=>W'.cell? ⟨w.heap.size,0,none⟩=some (.int .i64 (t:Nat))) (first|with_reducible exact Hb.out|with_reducible exact hL.out|with_reducible exact hZ.out|with_reducible exact hM.out) (first
   |(go_at_call 115
     with_reducible refine Calls.mono (Hc.out _) ?_
     rintro e w4 ⟨rfl,hb,hG,h6⟩;have h6:Below W3.heap.size W3 w4:=below_of_drew h6;have h7:=hid h6;have He:=hid (show Blk w4 W3.heap.size 26 #[.pointer (some ⟨b,0,none⟩)]from hb);have hN:(Instr.lookup 201 (.map (some (W3.heap.size+1))) (.int .i64 (t:Int)) false).run Tryz.prog w4= .ok (.func (.func K) fst (cap W3.heap.size)) w4:=look_wk (t:=t) hG HH.out.2.2.1 (hR.out _);have he:(Instr.lookup 201 (.map (some (W3.heap.size+1))) (.int .i64 (t:Int)) false).run Tryz.prog w4.drew= .ok (.func (.func K) fst (cap W3.heap.size)) w4.drew:=look_wk (t:=t) (w:=w4.drew) hG HH.out.2.2.1 (hR.out _);have hZ:=hid (show w4.cell? ⟨w.heap.size,0,none⟩=some (.int .i64 (t:Nat))from(h3.out.below h6 h3.out.lt).cell 0);have hM:=hid (show w4.drew.cell? ⟨w.heap.size,0,none⟩=some (.int .i64 (t:Nat))from hZ.out);clear hb hG h6)
   |fail)
 all_goals
  have Hg:=hid (h3.out.below h7.out h3.out.lt);have Hh:=hid (hY.out.below h7.out hY.out.lt);have y3:w4.cell? ⟨w.heap.size,3,none⟩=some (.slice A n c):=Hg.out.cell 3;clear hN he;have Ho:=neq_func (.func K) fst (cap W3.heap.size);go_wp2_with (first
   |(refine wpList_rowGet _ rfl (.tmp 6) 91 rfl w2.heap.size 91 _ rfl Hh.out _ Tryz.underlying91 rfl infSize ?_)
   |fail)
  have Hi:=hid (H9.out.below h7.out);have Hj:=hid (Ha.out.trans (Fr.below h7.out ow));have H0:=hj.out.size;have Hp:=h4.out.size;have Hl:=h5.out.size;have hd:=hid (h5.out.trans (h7.out.mono Hl));refine(HW.out w4 W3.heap.size _ _ Hi.out Hj.out He.out (by omega) ?_ ?_).mono ?_
  · exact ew_base (H5.out.below hd.out) H0
  · exact(hV.out.below hd.out (λg hg=>(hV.out.lt hg).1)).base H0
  intro e w5 hq;rcases hI.out e w5 hq with rfl|⟨cs,rfl⟩
  · have hH:=hid hq
    clear hq;go_wp2;go_end0;exact hH.out
  · have hH:=hid hq
    clear hq;go_wp2;exact⟨rfl,hH.out⟩
end Go.Proofs.YtkpppjhbmnfmkaaGreatDoor
end

section
set_option maxHeartbeats 4000000
set_option maxRecDepth 100000
namespace Go.Proofs.YtkpppjhbmnfmkaaGreatDoor
open Lib (hid)
open Go.RowKit Go.Own Go.Own.Im Go.Own.Cx Go.Own.Fr
def FP (w0:World) (ow0:Nat->Tg) (b:Nat) (S:Cv->Prop) (wr:World) (k:Nat):Prop:=∃M ow L,Runs k M S/\CN wr ow b M L/\Fr w0 ow0 wr ow/\Env wr ow
theorem least_nat {P:Nat->Prop} (h:∃k,P k):∃k,P k/\∀j,P j->k<=j:=by
 obtain⟨k,hk⟩:=h
 induction k using Nat.strongRecOn with
 |_ k ih=>
  by_cases hx:∃j,j<k/\P j
  · obtain⟨j,h1,h2⟩:=hx
    exact ih j h1 h2
  · exact⟨k,hk,λj hj=>Nat.le_of_not_lt λh0=>hx ⟨j,h0,hj⟩⟩
open Classical in
noncomputable def fpK (w0:World) (ow0:Nat->Tg) (b:Nat) (S:Cv->Prop) (wr:World):Nat:=if h:∃k,FP w0 ow0 b S wr k then(least_nat h).choose else 0
theorem fp_find {w0:World} {ow0:Nat->Tg} {b:Nat} {S:Cv->Prop} {wr:World} (h:∃k,FP w0 ow0 b S wr k):FP w0 ow0 b S wr (fpK w0 ow0 b S wr):=by
 unfold fpK;rw[dif_pos h];exact(least_nat h).choose_spec.1
theorem fp_le {w0:World} {ow0:Nat->Tg} {b:Nat} {S:Cv->Prop} {wr:World} {k:Nat} (h:FP w0 ow0 b S wr k):fpK w0 ow0 b S wr<=k:=by
 have h':∃k,FP w0 ow0 b S wr k:=⟨k,h⟩;unfold fpK;rw[dif_pos h'];exact(least_nat h').choose_spec.2 k h
theorem feed_any (w:World) (ow:Nat->Tg) (b:Nat) (M:Cv) (L:Lay) (S:Cv->Prop) (k:Nat) (A:Option Addr) (n c:Nat) (l:List UInt8) (hE:Env w ow) (h:CN w ow b M L) (hr:Rd w w.heap.size A n l) (hm:0<n->∀ad,A=some ad->ow ad.block= .no) (hd:M.dead=false) (hn:M.fed.length+n<=140737488355328)
 (hR:Runs k {M with evs:=[],fed:=M.fed++l} S):Calls Tryz.prog 10 #[.pointer (some ⟨b,0,none⟩),.slice A n c] w (FeedPost w ow b S):=by
 have hu:=h.unevs;have h0:=hid hu.1;have hD:=hid hu.2;have HE:=hid hE;have hF:=hid hR;have HN:=hid hn;have hG:=hid (show Rd (w.setCell ⟨b,7,none⟩ (.slice none 0 0)) w.heap.size A n l from⟨hr.1,λhp=>by
  obtain⟨ad,ha,hH,hc⟩:=hr.2 hp;refine⟨ad,ha,hH,λj hj=>?_⟩;have hne:ad.block≠b:=λe2=>by have:=hm hp ad ha;rw[e2,h.tb]at this;cases this
  exact(World.cell?_of_block (a:=ad.add j) (by rw[add_block];exact Below.heap_setCell w _ _ _ hne)).trans (hc j hj)⟩)
 have f7:=h.blk.frozen 7;have c7:w.cell? ⟨b,7,none⟩=some L.ev:=h.blk.cell 7;have HD:=hid hd;clear h hr hm hd hn hR hu hE;go_enter Tryz.func10,Tryz.ntmps10;go_upto_region 2 with fail;generalize w.setCell ⟨b,7,none⟩ (.slice none 0 0)=W0 at*
 have d19:W0.cell? ⟨b,19,none⟩=some (.bool M.dead):=h0.out.blk.cell 19;rw[HD.out]at d19;have h9:=h0.out.p.fed;obtain⟨A0,c0,h5,_,_⟩:=h9.form;have h5:L.fed= .slice A0 M.fed.length c0:=h5;have d3:W0.cell? ⟨b,3,none⟩=some L.fed:=h0.out.blk.cell 3;rw[h5]at d3;have hI:=hid (show Oz W0 (λg=>offE ow g= .fed) (.slice A0 M.fed.length c0) M.fed from h5▸h9);have HB:=hid h0.out.blk;have hJ:=hid h0.out.tb;clear h9 h5 c7 f7;go_upto_region 4 with(first
  |(refine wpList_app_z byteP _ rfl (.tmp 18) (.tmp 19) rfl (λg=>offE ow g= .fed) (.slice A0 M.fed.length c0) M.fed rfl hI.out w.heap.size A n c l rfl hG.out HN.out ?_
    intro A8 c8 w8 row8 ho hb hh;have hK:=hid ho;have hL:=hid hb;have hM:=hid hh;have hi:=HB.out.grown hb (λe=>by have h1:=(hh b e.symm).1;rw[hJ.out]at h1;cases h1);have hN:w8.frozen? ⟨b,3,none⟩=false:=hi.frozen 3;have hO:w8.cell? ⟨b,3,none⟩=some _:=hi.cell 3;clear hi ho hb hh)
  |fail)
 obtain⟨ow1,L1,hq,hs,_⟩:=h0.out.feeds hK.out hL.out hM.out;have hk:=hD.out.trans hs;have hP:=hid (show∃k,FP w ow b S _ k from⟨k,_,ow1,L1,hF.out,hq,hk,HE.out.fr hk⟩);clear hq hs hk hN hO d3 d19;generalize w8.setCell ⟨b,3,none⟩ _=W1 at*
 go_loopw [23] (λ_ wr=>Hid (∃k,FP w ow b S wr k)) (λ_ wr=>fpK w ow b S wr)
 case atStart=>exact hP.out
 case round=>
  obtain⟨k1,ht⟩:∃k,fpK w ow b S wr=k:=⟨_,rfl⟩;have hw:=fp_find hrel;rw[ht]at hw;obtain⟨M1,ow2,L2,h8,hc,hf,he⟩:=hw;have HC:=hid hc;have HF:=hid hf;have hl:=hid he;have e19:wr.cell? ⟨b,19,none⟩=some (.bool M1.dead):=hc.blk.cell 19;obtain⟨Ae,ce,hA,HH⟩:=hc.handed;have hQ:=hid HH;have e7:wr.cell? ⟨b,7,none⟩=some L2.ev:=hc.blk.cell 7;rw[hA]at e7;have ef7:=hc.blk.frozen 7;clear hrel hc hf he HH hA;cases h8 with
  |dead h1 h2=>
   rw[h1]at e19;have HS:=hid h2;clear h1 h2;go_wp2;go_ret;exact hQ.out _ _ HF.out _ HS.out
  |stop h1 h2=>
   rw[h1]at e19;have HS:=hid (h2 wr ow2 b L2 hl.out HC.out);clear h1 h2 e7 ef7;go_wp2_with (first
    |(go_at_call 40
      refine Calls.mono HS.out ?_;intro e w2 hp;obtain rfl:=hp.ret;obtain⟨M2,ow3,L3,hs3,h4,h6⟩:=hp.out;clear hp;obtain⟨A3,c3,hC,HH⟩:=h4.handed;have hS:=hid (HH w ow (HF.out.trans h6) S hs3);have e7:w2.cell? ⟨b,7,none⟩=some L3.ev:=h4.blk.cell 7;rw[hC]at e7;have ef7:=h4.blk.frozen 7;clear hs3 h4 h6 HH hC)
    |fail)
   go_ret;exact hS.out
  |more h1 h2 h3=>
   rw[h1]at e19;have HS:=hid (h2 wr ow2 b L2 hl.out HC.out);have hT:=hid h3;clear h1 h2 h3 e7 ef7;go_wp2_with (first
    |(go_at_call 40
      refine Calls.mono HS.out ?_;intro e w2 hp;obtain rfl:=hp.ret;have HP:=hid hp;clear hp)
    |fail)
   obtain⟨M2,ow3,L3,hs3,h4,h6⟩:=HP.out.out;have h7:FP w ow b S w2 _:=⟨M2,ow3,L3,hT.out M2 hs3,h4,HF.out.trans h6,hl.out.fr h6⟩;exact⟨hid ⟨_,h7⟩,Nat.lt_of_le_of_lt (fp_le h7) (by rw[ht];exact Nat.lt_succ_self _)⟩
end Go.Proofs.YtkpppjhbmnfmkaaGreatDoor
end

section
set_option maxHeartbeats 8000000
set_option maxRecDepth 100000
namespace Go.Proofs.YtkpppjhbmnfmkaaGreatDoor
open Lib (hid)
open Go.RowKit Go.Own Go.Own.Im Go.Own.Cx Go.Own.Fr
attribute [local go_sem] Oper.semAt_some
theorem takes_gen (w:World) (ow:Nat->Tg) (b:Nat) (M:Cv) (L:Lay) (Q:Ending->World->Prop) (t f s K:Nat) (fst:Array Value) (cap:Nat->Array Value) (A:Option Addr) (n c:Nat) (l:List UInt8) (j:Inf)
 (h:CN w ow b M L) (hr:Rd w w.heap.size A n l) (hO:0<n->∀ad,A=some ad->ow ad.block= .no) (hc:n<=c) (hn:n<=16384) (ht:t<=255) (hf:f<=255) (hs:s<=2147483647) (h8:∀W:World,Rd W w.heap.size A n l->w.heap.size<=W.heap.size->Calls Tryz.prog 104 #[.agg #[.int .i64 (t:Nat),.int .i64 (f:Nat),.int .i64 (s:Nat),.slice A n c]] W (OpPost W t f s l)) (hl:M.list=none) (h9:t≠9)
 (hu:M.greeted=true\/(t=4/\f&&& 1=0)) (ho:opn t f s l= .ok j) (hP:∀g,wkF g b (t:Int)=some (.func (.func K) fst (cap g))) (hE:Enters Tryz.prog K)
 (hb:∀e w',Q e w'->e= .returned (.tuple #[])\/∃cs,e= .panicked cs)
 (hw:∀W g sv dv,CN W ow b {M with greeted:=true} L->Fr w ow W ow->Blk W g 26 #[.pointer (some ⟨b,0,none⟩)]->w.heap.size<=g->SetO W w.heap.size sv j.sets->Ow W w.heap.size 5 dv j.data.length j.data->
   Calls Tryz.prog K (fst++(#[.agg (infC j sv dv),.int .i64 (n:Nat)]++cap g)) W Q):
 Calls Tryz.prog 72 #[.pointer (some ⟨b,0,none⟩),.agg #[.int .i64 (t:Nat),.int .i64 (f:Nat),.int .i64 (s:Nat),.slice A n c]] w Q:=by
 have Hn:=assert_nil;have hE:∀args w,(callFunc K args).run Tryz.prog w= .ok (.enter K args) w:=hE;have HX:=hid (Blk.new w 24 #[.int .i64 (t:Nat),.int .i64 (f:Nat),.int .i64 (s:Nat),.slice A n c]);have hQ:=hid ((Below.refl w.heap.size w).alloc (Nat.le_refl _) (.cells #[.int .i64 (t:Nat),.int .i64 (f:Nat),.int .i64 (s:Nat),.slice A n c] 24));have HC:=hid h;have HR:=hid hr;have H1:=hid hO;have HW:=hid hw;have hI:=hid hb;have hR:=hid hP;have HO:=hid ho;have HH:=hid (show _/\_/\_/\_/\_ from⟨hc,hn,ht,hf,hs⟩);have H2:=hid h8;have e1:bits .and .i64 (f:Int) 1=((f&&& 1:Nat):Int):=and_nat f 1 (by omega) (by omega);obtain⟨q,hq⟩:∃q,f&&& 1=q:=⟨_,rfl⟩;rw[hq]at e1 hu;have hS:M.greeted=true\/(((t:Int) != 4)=false/\((q:Int) != 0)=false):=by
  rcases hu with hg|⟨h1,h2⟩
  · exact .inl hg
  · subst h1 h2;exact .inr ⟨rfl,rfl⟩
 have Ho:((t:Int)==9)=false:=by simp;omega
 have HL:=hid (show L.list= .pointer none from by have:=h.p.lst;rw[hl]at this;exact this);have H3:=hid hS;clear h hr hO hw hb hP ho hc hn ht hf hs h8 hl h9 hu hq hS;go_enter Tryz.func72,Tryz.ntmps72;go_upto_region 1 with fail;generalize w.alloc (.cells #[.int .i64 (t:Nat),.int .i64 (f:Nat),.int .i64 (s:Nat),.slice A n c] 24)=W0 at*
 have hi:=hid (HC.out.below hQ.out);have x0:W0.cell? ⟨w.heap.size,0,none⟩=some (.int .i64 (t:Nat)):=HX.out.cell 0;have x1:W0.cell? ⟨w.heap.size,1,none⟩=some (.int .i64 (f:Nat)):=HX.out.cell 1;have x2:W0.cell? ⟨w.heap.size,2,none⟩=some (.int .i64 (s:Nat)):=HX.out.cell 2;have c3:W0.cell? ⟨b,3,none⟩=some L.fed:=hi.out.blk.cell 3;have c4:W0.cell? ⟨b,4,none⟩=some (.bool M.greeted):=hi.out.blk.cell 4;have f4:=hi.out.blk.frozen 4;cases hj:M.greeted
 case' false=>
  have hA:=H3.out;rw[hj]at hA c4;obtain⟨H4,H5⟩:=hA.resolve_left (by decide);clear hA hj;go_upto_region 5 with fail;clear H4 H5
 case' true=>
  rw[hj]at c4;clear hj;go_upto_region 5 with fail
 all_goals
  have hC:=hi.out.greets;have hT:=hid hC.1;have hk:=hid ((Fr.below hQ.out ow).trans hC.2);have h0:=hid (HX.out.far (p:=⟨b,4,none⟩) (by have:=HC.out.blk.lt;show w.heap.size≠b;omega) (.bool true));clear hC x0 x1 x2 c3 c4 f4;generalize W0.setCell ⟨b,4,none⟩ (.bool true)=W1 at*
  have x0:W1.cell? ⟨w.heap.size,0,none⟩=some (.int .i64 (t:Nat)):=h0.out.cell 0;have x1:W1.cell? ⟨w.heap.size,1,none⟩=some (.int .i64 (f:Nat)):=h0.out.cell 1;have x2:W1.cell? ⟨w.heap.size,2,none⟩=some (.int .i64 (s:Nat)):=h0.out.cell 2;have x3:W1.cell? ⟨w.heap.size,3,none⟩=some (.slice A n c):=h0.out.cell 3;have c16:W1.cell? ⟨b,16,none⟩=some L.list:=hT.out.blk.cell 16;rw[HL.out]at c16;go_wp2_with fail;go_quiet (fail);have hJ:=hid (λn1=>H2.out (W1.drewN n1) (hk.out.rd HR.out (Nat.le_refl _) H1.out) hk.out.size);go_upto_region 8 with fail;go_wp2_with fail;refine(hJ.out _).mono ?_;intro e w2 hp;obtain⟨hU,hm⟩:=hp;simp only[HO.out]at hm;obtain⟨sv,dv,rfl,hD,hF⟩:=hm;obtain⟨A5,c5,rfl,_,_⟩:=hD.form;obtain⟨A6,c6,rfl,_,_,_⟩:=hF.form;have h4:=hid (show Below W1.heap.size W1 w2 from bdN (Below.refl W1.heap.size W1) _ |>.trans hU);have H7:=hid hD;have hV:=hid hF;have H8:=hid (hT.out.below h4.out);have H9:=hid (hk.out.trans (Fr.below h4.out ow));clear hU hD hF x0 x1 x2 x3 c16;go_upto_region 12 with(first
   |(refine wpList_rowPut _ rfl (.tmp 6) (.tmp 72) 91 rfl w2.heap.size 91 (infC {} (.slice none 0 0) (.slice none 0 0)) _ rfl rfl (Blk.new w2 91 _) infSize rfl (infC_one _ _ _ _ _ _ _) ?_
     intro W3 hW hX;have hY:=hid hW;have h5:=hid (((Below.refl w2.heap.size w2).alloc (Nat.le_refl _) (.cells (infC {} (.slice none 0 0) (.slice none 0 0)) 91)).grown hX (by simp) (λg e=>by injection e with e;omega));clear hW hX)
   |fail)
  have hK:=hid (h4.out.trans (h5.out.mono h4.out.size));have Ha:=hid (H8.out.below h5.out);have h3:=hid (h0.out.below hK.out h0.out.lt);have Hb:=hid (H9.out.trans (Fr.below h5.out ow));have Hc:=hid (show W3.cell? ⟨w.heap.size,0,none⟩=some (.int .i64 (t:Nat))from h3.out.cell 0);have hL:=hid (show W3.drew.cell? ⟨w.heap.size,0,none⟩=some (.int .i64 (t:Nat))from h3.out.cell 0);have He:=hid (λW=>works_any b W);go_region_held3 (λW'=>W'.cell? ⟨w.heap.size,0,none⟩=some (.int .i64 (t:Nat))) (first|with_reducible exact Hc.out|with_reducible exact hL.out|with_reducible exact hZ.out|with_reducible exact hM.out) (first
   |(go_at_call 115
     with_reducible refine Calls.mono (He.out _) ?_
     rintro e w4 ⟨rfl,hd,hG,h6⟩;have h6:Below W3.heap.size W3 w4:=below_of_drew h6;have h7:=hid h6;have Hg:=hid (show Blk w4 W3.heap.size 26 #[.pointer (some ⟨b,0,none⟩)]from hd);have hN:(Instr.lookup 201 (.map (some (W3.heap.size+1))) (.int .i64 (t:Int)) false).run Tryz.prog w4= .ok (.func (.func K) fst (cap W3.heap.size)) w4:=look_wk (t:=t) hG HH.out.2.2.1 (hR.out _);have hh:(Instr.lookup 201 (.map (some (W3.heap.size+1))) (.int .i64 (t:Int)) false).run Tryz.prog w4.drew= .ok (.func (.func K) fst (cap W3.heap.size)) w4.drew:=look_wk (t:=t) (w:=w4.drew) hG HH.out.2.2.1 (hR.out _);have hZ:=hid (show w4.cell? ⟨w.heap.size,0,none⟩=some (.int .i64 (t:Nat))from(h3.out.below h6 h3.out.lt).cell 0);have hM:=hid (show w4.drew.cell? ⟨w.heap.size,0,none⟩=some (.int .i64 (t:Nat))from hZ.out);clear hd hG h6)
   |fail)
 all_goals
  have Hh:=hid (h3.out.below h7.out h3.out.lt);have Hi:=hid (hY.out.below h7.out hY.out.lt);have y3:w4.cell? ⟨w.heap.size,3,none⟩=some (.slice A n c):=Hh.out.cell 3;clear hN hh;have Hp:=neq_func (.func K) fst (cap W3.heap.size);go_wp2_with (first
   |(refine wpList_rowGet _ rfl (.tmp 6) 91 rfl w2.heap.size 91 _ rfl Hi.out _ Tryz.underlying91 rfl infSize ?_)
   |fail)
  have Hj:=hid (Ha.out.below h7.out);have Hl:=hid (Hb.out.trans (Fr.below h7.out ow));have H0:=hk.out.size;have Hq:=h4.out.size;have Hm:=h5.out.size;have he:=hid (h5.out.trans (h7.out.mono Hm));refine(HW.out w4 W3.heap.size _ _ Hj.out Hl.out Hg.out (by omega) ?_ ?_).mono ?_
  · exact ew_base (H7.out.below he.out) H0
  · exact(hV.out.below he.out (λg hg=>(hV.out.lt hg).1)).base H0
  intro e w5 hq;rcases hI.out e w5 hq with rfl|⟨cs,rfl⟩
  · have hH:=hid hq
    clear hq;go_wp2;go_end0;exact hH.out
  · have hH:=hid hq
    clear hq;go_wp2;exact⟨rfl,hH.out⟩
end Go.Proofs.YtkpppjhbmnfmkaaGreatDoor
end

section
set_option maxHeartbeats 8000000
set_option maxRecDepth 100000
namespace Go.Proofs.YtkpppjhbmnfmkaaGreatDoor
open Lib (hid)
open Go.RowKit Go.Own Go.Own.Im Go.Own.Cx Go.Own.Fr
attribute [local go_sem] Oper.semAt_some
theorem takes_more (w:World) (ow:Nat->Tg) (b:Nat) (M:Cv) (L:Lay) (fin:Bool) (l0:List UInt8) (Q:Ending->World->Prop) (t f s K:Nat) (fst:Array Value) (cap:Nat->Array Value) (A:Option Addr) (n c:Nat) (l:List UInt8) (j:Inf)
 (h:CN w ow b M L) (hr:Rd w w.heap.size A n l) (hO:0<n->∀ad,A=some ad->ow ad.block= .no) (hc:n<=c) (hn:n<=16384) (ht:t<=255) (hf:f<=255) (hs:s<=2147483647) (hp:hasF t f 8=false) (hk:t≠2/\t≠5/\(t=1->hasF t f 32=false)) (hl:M.list=some (s,fin,l0)) (h9:t=9)
 (hP:M.greeted=true) (ho:opn t f s l= .ok j) (hQ:∀g,wkF g b (t:Int)=some (.func (.func K) fst (cap g))) (hE:Enters Tryz.prog K)
 (h7:∀e w',Q e w'->e= .returned (.tuple #[])\/∃cs,e= .panicked cs)
 (hw:∀W g sv dv,CN W ow b {M with greeted:=true} L->Fr w ow W ow->Blk W g 26 #[.pointer (some ⟨b,0,none⟩)]->w.heap.size<=g->SetO W w.heap.size sv j.sets->Ow W w.heap.size 5 dv j.data.length j.data->
   Calls Tryz.prog K (fst++(#[.agg (infC j sv dv),.int .i64 (n:Nat)]++cap g)) W Q):
 Calls Tryz.prog 72 #[.pointer (some ⟨b,0,none⟩),.agg #[.int .i64 (t:Nat),.int .i64 (f:Nat),.int .i64 (s:Nat),.slice A n c]] w Q:=by
 have Ho:=assert_nil;have hE:∀args w,(callFunc K args).run Tryz.prog w= .ok (.enter K args) w:=hE;have HX:=hid (Blk.new w 24 #[.int .i64 (t:Nat),.int .i64 (f:Nat),.int .i64 (s:Nat),.slice A n c]);have hj:=hid ((Below.refl w.heap.size w).alloc (Nat.le_refl _) (.cells #[.int .i64 (t:Nat),.int .i64 (f:Nat),.int .i64 (s:Nat),.slice A n c] 24));have HC:=hid h;have HR:=hid hr;have H4:=hid hO;have HW:=hid hw;have hG:=hid h7;have hR:=hid hQ;have HO:=hid ho;have HH:=hid (show _/\_/\_/\_/\_/\_/\_ from⟨hc,hn,ht,hf,hs,hp,hk⟩);have e1:bits .and .i64 (f:Int) 1=((f&&& 1:Nat):Int):=and_nat f 1 (by omega) (by omega);obtain⟨q,hq⟩:∃q,f&&& 1=q:=⟨_,rfl⟩;rw[hq]at e1;have Hp:((t:Int)==9)=true:=by rw[h9];rfl
 have h8:=h.p.lst;rw[hl]at h8;obtain⟨gp,bv,hS,hT,hU,_⟩:=h8;have HL:=hid hS;have hV:=hid hU;have H5:=hid hT;have H7:=hid hP;clear h hr hO hw h7 hQ ho hc hn ht hf hs hp hk hl h9 hP hq hS hT hU;go_enter Tryz.func72,Tryz.ntmps72;go_upto_region 1 with fail;generalize w.alloc (.cells #[.int .i64 (t:Nat),.int .i64 (f:Nat),.int .i64 (s:Nat),.slice A n c] 24)=W0 at*
 have hh:=hid (HC.out.below hj.out);have x0:W0.cell? ⟨w.heap.size,0,none⟩=some (.int .i64 (t:Nat)):=HX.out.cell 0;have x1:W0.cell? ⟨w.heap.size,1,none⟩=some (.int .i64 (f:Nat)):=HX.out.cell 1;have x2:W0.cell? ⟨w.heap.size,2,none⟩=some (.int .i64 (s:Nat)):=HX.out.cell 2;have c3:W0.cell? ⟨b,3,none⟩=some L.fed:=hh.out.blk.cell 3;have c4:W0.cell? ⟨b,4,none⟩=some (.bool M.greeted):=hh.out.blk.cell 4;have f4:=hh.out.blk.frozen 4;rw[H7.out]at c4;go_upto_region 5 with fail;all_goals
  have hu:=hh.out.greets;have hW:=hid hu.1;have hi:=hid ((Fr.below hj.out ow).trans hu.2);have h0:=hid (HX.out.far (p:=⟨b,4,none⟩) (by have:=HC.out.blk.lt;show w.heap.size≠b;omega) (.bool true));have hH:gp≠b:=λe=>by have h1:=H5.out;rw[e,HC.out.tb]at h1;cases h1
  have hI:=hid ((hV.out.below hj.out hV.out.lt).far (p:=⟨b,4,none⟩) hH (.bool true));clear hu x0 x1 x2 c3 c4 f4;generalize W0.setCell ⟨b,4,none⟩ (.bool true)=W1 at*
  have x0:W1.cell? ⟨w.heap.size,0,none⟩=some (.int .i64 (t:Nat)):=h0.out.cell 0;have x1:W1.cell? ⟨w.heap.size,1,none⟩=some (.int .i64 (f:Nat)):=h0.out.cell 1;have x2:W1.cell? ⟨w.heap.size,2,none⟩=some (.int .i64 (s:Nat)):=h0.out.cell 2;have x3:W1.cell? ⟨w.heap.size,3,none⟩=some (.slice A n c):=h0.out.cell 3;have c16:W1.cell? ⟨b,16,none⟩=some L.list:=hW.out.blk.cell 16;rw[HL.out]at c16;have p0:W1.cell? ⟨gp,0,none⟩=some (.int .i64 (s:Nat)):=hI.out.cell 0;go_wp2_with fail;go_quiet (fail);have hJ:=hid (λn1=>open_more t f s A n c w.heap.size l (W1.drewN n1) (hi.out.rd HR.out (Nat.le_refl _) H4.out) hi.out.size HH.out.1 (by have:=HH.out.2.1;omega) HH.out.2.2.1 HH.out.2.2.2.1 HH.out.2.2.2.2.1 HH.out.2.2.2.2.2.1 HH.out.2.2.2.2.2.2);go_upto_region 8 with fail;go_wp2_with fail;refine(hJ.out _).mono ?_;intro e w2 hp;obtain⟨hX,hm⟩:=hp;simp only[HO.out]at hm;obtain⟨sv,dv,rfl,hA,hC⟩:=hm;obtain⟨A5,c5,rfl,_,_⟩:=hA.form;obtain⟨A6,c6,rfl,_,_,_⟩:=hC.form;have h3:=hid (show Below W1.heap.size W1 w2 from bdN (Below.refl W1.heap.size W1) _ |>.trans hX);have H8:=hid hA;have hY:=hid hC;have H9:=hid (hW.out.below h3.out);have Ha:=hid (hi.out.trans (Fr.below h3.out ow));clear hX hA hC x0 x1 x2 x3 c16 p0;go_upto_region 12 with(first
   |(refine wpList_rowPut _ rfl (.tmp 6) (.tmp 72) 91 rfl w2.heap.size 91 (infC {} (.slice none 0 0) (.slice none 0 0)) _ rfl rfl (Blk.new w2 91 _) infSize rfl (infC_one _ _ _ _ _ _ _) ?_
     intro W3 hZ H0;have H1:=hid hZ;have h4:=hid (((Below.refl w2.heap.size w2).alloc (Nat.le_refl _) (.cells (infC {} (.slice none 0 0) (.slice none 0 0)) 91)).grown H0 (by simp) (λg e=>by injection e with e;omega));clear hZ H0)
   |fail)
  have hK:=hid (h3.out.trans (h4.out.mono h3.out.size));have Hb:=hid (H9.out.below h4.out);have h2:=hid (h0.out.below hK.out h0.out.lt);have Hc:=hid (Ha.out.trans (Fr.below h4.out ow));have He:=hid (show W3.cell? ⟨w.heap.size,0,none⟩=some (.int .i64 (t:Nat))from h2.out.cell 0);have hL:=hid (show W3.drew.cell? ⟨w.heap.size,0,none⟩=some (.int .i64 (t:Nat))from h2.out.cell 0);have Hg:=hid (λW=>works_any b W);go_region_held3 (λW'=>W'.cell? ⟨w.heap.size,0,none⟩=some (.int .i64 (t:Nat))) (first|with_reducible exact He.out|with_reducible exact hL.out|with_reducible exact H2.out|with_reducible exact hM.out) (first
   |(go_at_call 115
     with_reducible refine Calls.mono (Hg.out _) ?_
     rintro e w4 ⟨rfl,hb,hD,h5⟩;have h5:Below W3.heap.size W3 w4:=below_of_drew h5;have h6:=hid h5;have Hh:=hid (show Blk w4 W3.heap.size 26 #[.pointer (some ⟨b,0,none⟩)]from hb);have hN:(Instr.lookup 201 (.map (some (W3.heap.size+1))) (.int .i64 (t:Int)) false).run Tryz.prog w4= .ok (.func (.func K) fst (cap W3.heap.size)) w4:=look_wk (t:=t) hD HH.out.2.2.1 (hR.out _);have he:(Instr.lookup 201 (.map (some (W3.heap.size+1))) (.int .i64 (t:Int)) false).run Tryz.prog w4.drew= .ok (.func (.func K) fst (cap W3.heap.size)) w4.drew:=look_wk (t:=t) (w:=w4.drew) hD HH.out.2.2.1 (hR.out _);have H2:=hid (show w4.cell? ⟨w.heap.size,0,none⟩=some (.int .i64 (t:Nat))from(h2.out.below h5 h2.out.lt).cell 0);have hM:=hid (show w4.drew.cell? ⟨w.heap.size,0,none⟩=some (.int .i64 (t:Nat))from H2.out);clear hb hD h5)
   |fail)
 all_goals
  have Hi:=hid (h2.out.below h6.out h2.out.lt);have Hj:=hid (H1.out.below h6.out H1.out.lt);have y3:w4.cell? ⟨w.heap.size,3,none⟩=some (.slice A n c):=Hi.out.cell 3;clear hN he;have Hq:=neq_func (.func K) fst (cap W3.heap.size);go_wp2_with (first
   |(refine wpList_rowGet _ rfl (.tmp 6) 91 rfl w2.heap.size 91 _ rfl Hj.out _ Tryz.underlying91 rfl infSize ?_)
   |fail)
  have Hl:=hid (Hb.out.below h6.out);have Hm:=hid (Hc.out.trans (Fr.below h6.out ow));have H3:=hi.out.size;have Hs:=h3.out.size;have Hn:=h4.out.size;have hd:=hid (h4.out.trans (h6.out.mono Hn));refine(HW.out w4 W3.heap.size _ _ Hl.out Hm.out Hh.out (by omega) ?_ ?_).mono ?_
  · exact ew_base (H8.out.below hd.out) H3
  · exact(hY.out.below hd.out (λg hg=>(hY.out.lt hg).1)).base H3
  intro e w5 hq;rcases hG.out e w5 hq with rfl|⟨cs,rfl⟩
  · have hF:=hid hq
    clear hq;go_wp2;go_end0;exact hF.out
  · have hF:=hid hq
    clear hq;go_wp2;exact⟨rfl,hF.out⟩
end Go.Proofs.YtkpppjhbmnfmkaaGreatDoor
end
