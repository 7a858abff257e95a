/-
  
  
  
-/
import Derived.Test.YtkpppjhbmnfmkaaGreatDoorJac
import Derived.Test.YtkpppjhbmnfmkaaGreatDoorHy
import Derived.Deep.RegionHeld3
import Derived.Deep.RegionLaw
import Derived.Deep.DrawnRows
import Derived.Deep.QuietTactic
import Derived.BigQuiet
import Derived.Test.YtkpppjhbmnfmkaaGreatDoorJab
set_option linter.unusedSimpArgs false
set_option linter.unusedVariables false
section
set_option maxHeartbeats 8000000
set_option maxRecDepth 100000
namespace Go.Proofs.YtkpppjhbmnfmkaaGreatDoor
open Lib (hid)
open Go.RowKit Go.Own Go.Own.Im Go.Own.Cx Go.Own.Fr
attribute [local go_sem] Oper.semAt_some
section
variable {w w':World} {ow ow':Nat->Tg} {b:Nat} {M:Cv} {L:Lay}
theorem CN.drewN (h:CN w ow b M L) (n:Nat):CN (w.drewN n) ow b M L:=h.keep (Nat.le_refl _) λ_ _ _=>rfl
theorem Fr.drewN (w:World) (ow:Nat->Tg) (n:Nat):Fr w ow (w.drewN n) ow:=⟨rfl,rfl,rfl,Nat.le_refl _,λ_ _ _=>rfl,λ_ _ h=>h⟩
theorem CN.tag (h:CN w ow b M L) {g:Nat} (hg:ow g= .no) (hlt:g<w.heap.size) (t:Tg):CN w (upd ow g t) b M L:=by
 have hb:b≠g:=λe=>by have:=h.tb;rw[e,hg]at this;cases this
 refine⟨h.blk,by rw[upd_other _ _ hb];exact h.tb,h.p.keep (Nat.le_refl _) λj a _ _=>⟨rfl,upd_other _ _ (λe=>a (by rw[e];exact hg))⟩,λj hj=>by rw[upd_other _ _ (by omega)];exact h.new j hj⟩
theorem Fr.belowTag (h:Below w.heap.size w w') (ow:Nat->Tg) {g:Nat} (hg:w.heap.size<=g) (t:Tg):Fr w ow w' (upd ow g t):=
 ⟨h.os,h.tape,h.output,h.size,λj hj _=>h.block j hj,λj hj ho=>by rw[upd_other _ _ (by omega)];exact ho⟩
def CPost (w:World) (ow:Nat->Tg) (b:Nat) (M':Cv) (v:Value) (e:Ending) (w':World):Prop:=∃ow' L',e= .returned v/\CN w' ow' b M' L'/\Fr w ow w' ow'
theorem CPost.ret {v:Value} {e:Ending} {M':Cv} (h:CPost w ow b M' v e w'):e= .returned v:=by
 obtain⟨_,_,h,_⟩:=h;exact h
def CPostL (w:World) (ow:Nat->Tg) (b:Nat) (L:Lay) (M':Cv) (v:Value) (e:Ending) (w':World):Prop:=∃ow' L',e= .returned v/\CN w' ow' b M' L'/\Fr w ow w' ow'/\L'.s=L.s
theorem CPostL.cp {v:Value} {e:Ending} {M':Cv} (h:CPostL w ow b L M' v e w'):CPost w ow b M' v e w':=by
 obtain⟨ow',L',h1,h2,h3,_⟩:=h;exact⟨ow',L',h1,h2,h3⟩
theorem CN.outs (h:CN w ow b M L) {w1:World} (hb:Below w.heap.size w w1) {base n c:Nat} {A:Option Addr} {l:List UInt8} (ho:Ow w1 base 5 (.slice A n c) n l) (hbase:w.heap.size<=base):
 ∃ow' L',CN (w1.setCell ⟨b,6,none⟩ (.slice A n c)) ow' b {M with out:=l} L'/\Fr w ow (w1.setCell ⟨b,6,none⟩ (.slice A n c)) ow'/\L'.s=L.s:=by
 have h1:=h.below hb;rcases ho.2 with⟨e,h0⟩|⟨g,cap,cur,e,h4,hg,r⟩
 · have hl:l=[]:=List.eq_nil_of_length_eq_zero (by rw[ho.len];exact h0)
   subst hl;injection e with e1 e2 e3
   subst e1 e2 e3;have h2:=h1.cell (M':={M with out:=[]}) (L':={L with out:=.slice none 0 0}) 6 (.slice none 0 0) rfl
    ⟨h1.p.fed,OzF.nil _ _,h1.p.ev,h1.p.inw,h1.p.ti,h1.p.outw,h1.p.tu,h1.p.map,h1.p.tm,h1.p.strs,h1.p.lst,h1.p.enc,h1.p.dec⟩
   exact⟨_,_,h2.1,(Fr.below hb ow).trans h2.2,rfl⟩
 · have h3:g<w1.heap.size:=(Array.getElem?_eq_some_iff.1 hg).1
   have ht:=h1.tag (h.new g (by omega)) h3 .out;have hz:OzF w1 (λj=>upd ow g .out j= .out) (.slice A n c) l:=OzF.of_ow ho λj ej=>by
    have:j=g:=by
     rw[e]at ej
     simpa [Value.ownBlock]using ej.symm
    subst this;exact upd_same _ _ _
   have h2:=ht.cell (M':={M with out:=l}) (L':={L with out:=.slice A n c}) 6 (.slice A n c) rfl
    ⟨ht.p.fed,hz,ht.p.ev,ht.p.inw,ht.p.ti,ht.p.outw,ht.p.tu,ht.p.map,ht.p.tm,ht.p.strs,ht.p.lst,ht.p.enc,ht.p.dec⟩
   exact⟨_,_,h2.1,(Fr.belowTag hb ow (by omega) .out).trans h2.2,rfl⟩
end
theorem put_anyL (w:World) (ow:Nat->Tg) (b:Nat) (M:Cv) (L:Lay) (i:Inf) (cs:Array Value) (h:CN w ow b M L) (hh:cs.size=18) (hi:BuF w i cs) (ho:M.out.length<=1000000000):
 Calls Tryz.prog 39 #[.pointer (some ⟨b,0,none⟩),.agg cs] w (CPostL w ow b L {M with out:=M.out++frameB i.typ (flg i) i.stream (pay i)} (.tuple #[])):=by
 have HX:=hid (Blk.new w 91 cs);have h8:=hid ((Below.refl w.heap.size w).alloc (Nat.le_refl _) (.cells cs 91));have HI:=hid hi;have HC:=hid h;have hs:=hid (show(Tryz.prog.info? 91).map (·.size)=some cs.size by rw[hh];exact infSize);have HO:=hid ho;generalize hM:({M with out:=M.out++frameB i.typ (flg i) i.stream (pay i)}:Cv)=M';have HM:=hid hM;clear h hi ho hh hM;go_enter Tryz.func39,Tryz.ntmps39;go_upto_region 1 with fail;generalize w.alloc (.cells cs 91)=W0 at*
 go_wp2_with (first
  |(refine wpList_rowGet _ rfl (.tmp 3) 91 rfl w.heap.size 91 _ rfl HX.out _ Tryz.underlying91 rfl hs.out ?_)
  |fail)
 refine(HI.out.bld W0 h8.out).mono ?_;rintro e W1 ⟨A1,c1,rfl,hj,hk⟩;have ht:=hid hj;have h9:=hid (h8.out.trans (hk.mono h8.out.size));clear hj hk;obtain⟨Ao,co,h5,hu,_⟩:=HC.out.p.out.1.form;go_upto_region 3 with fail;have HF:=hid (Blk.new W1 24 #[.int .i64 (i.typ:Nat),.int .i64 (flg i:Nat),.int .i64 (i.stream:Nat),.slice A1 (pay i).length c1]);have h6:=hid (h9.out.alloc h9.out.size (.cells #[.int .i64 (i.typ:Nat),.int .i64 (flg i:Nat),.int .i64 (i.stream:Nat),.slice A1 (pay i).length c1] 24));have hw:=hid ((ht.out.alloc (.cells #[.int .i64 (i.typ:Nat),.int .i64 (flg i:Nat),.int .i64 (i.stream:Nat),.slice A1 (pay i).length c1] 24)).rd);have hA:=h9.out.size;generalize hC:W1.heap.size=gs at*
 generalize W1.alloc (.cells #[.int .i64 (i.typ:Nat),.int .i64 (flg i:Nat),.int .i64 (i.stream:Nat),.slice A1 (pay i).length c1] 24)=W2 at*
 have hb:=hid (HC.out.below h6.out);have hc:=hb.out.p.out.1;rw[h5]at hc;have hD:=hid hc.rd;have h7:W2.cell? ⟨b,6,none⟩=some L.out:=hb.out.blk.cell 6;rw[h5]at h7;have hE:=hid h5;have hl:=hid (show W2.cell? ⟨b,6,none⟩=some (.slice Ao M.out.length co)/\W2.cell? ⟨gs,0,none⟩=some (.int .i64 (i.typ:Nat))/\W2.cell? ⟨gs,1,none⟩=some (.int .i64 (flg i:Nat))/\W2.cell? ⟨gs,2,none⟩=some (.int .i64 (i.stream:Nat))/\W2.cell? ⟨gs,3,none⟩=some (.slice A1 (pay i).length c1)from
  ⟨h7,HF.out.cell 0,HF.out.cell 1,HF.out.cell 2,HF.out.cell 3⟩)
 have he:=hid (show W2.drew.cell? ⟨b,6,none⟩=some (.slice Ao M.out.length co)/\W2.drew.cell? ⟨gs,0,none⟩=some (.int .i64 (i.typ:Nat))/\W2.drew.cell? ⟨gs,1,none⟩=some (.int .i64 (flg i:Nat))/\W2.drew.cell? ⟨gs,2,none⟩=some (.int .i64 (i.stream:Nat))/\W2.drew.cell? ⟨gs,3,none⟩=some (.slice A1 (pay i).length c1)from hl.out);clear h7 hc hA h5 hu hC;go_region_held3 (λW'=>W'.cell? ⟨b,6,none⟩=some (.slice Ao M.out.length co)/\W'.cell? ⟨gs,0,none⟩=some (.int .i64 (i.typ:Nat))/\W'.cell? ⟨gs,1,none⟩=some (.int .i64 (flg i:Nat))/\W'.cell? ⟨gs,2,none⟩=some (.int .i64 (i.stream:Nat))/\W'.cell? ⟨gs,3,none⟩=some (.slice A1 (pay i).length c1)) (first|with_reducible exact hl.out|with_reducible exact he.out|with_reducible exact hd.out|with_reducible exact hf.out) (first
  |(go_at_call 67
    refine(fput_any Ao A1 M.out.length co (pay i).length c1 i.typ (flg i) i.stream M.out (pay i) W2.drew W2.heap.size W2.heap.size hD.out (Nat.le_refl _) hw.out (Nat.le_refl _) HO.out (by have:=HI.out.len;omega) HI.out.typ HI.out.flags HI.out.stream).mono ?_;rintro e W3 ⟨A3,c3,rfl,hm,hn⟩;have h0:Below W2.heap.size W2 W3:=below_of_drew hn;have hF:=hid (show Ow W3 W2.heap.size 5 (.slice A3 (M.out.length+(9+(pay i).length)) c3) _ _ from hm);have hG:=hid h0;have h4:=HF.out.below h0 HF.out.lt;have hq:=hid (hb.out.below h0);have hd:=hid (show W3.cell? ⟨b,6,none⟩=some (.slice Ao M.out.length co)/\W3.cell? ⟨gs,0,none⟩=some (.int .i64 (i.typ:Nat))/\W3.cell? ⟨gs,1,none⟩=some (.int .i64 (flg i:Nat))/\W3.cell? ⟨gs,2,none⟩=some (.int .i64 (i.stream:Nat))/\W3.cell? ⟨gs,3,none⟩=some (.slice A1 (pay i).length c1)from
     ⟨(by have h:=hq.out.blk.cell 6;rw[<-hE.out];exact h),h4.cell 0,h4.cell 1,h4.cell 2,h4.cell 3⟩)
    have hf:=hid (show W3.drew.cell? ⟨b,6,none⟩=some (.slice Ao M.out.length co)/\W3.drew.cell? ⟨gs,0,none⟩=some (.int .i64 (i.typ:Nat))/\W3.drew.cell? ⟨gs,1,none⟩=some (.int .i64 (flg i:Nat))/\W3.drew.cell? ⟨gs,2,none⟩=some (.int .i64 (i.stream:Nat))/\W3.drew.cell? ⟨gs,3,none⟩=some (.slice A1 (pay i).length c1)from hd.out);clear hm hn h0 h4)
  |fail)
 all_goals
  have hH:=hq.out.blk.frozen 6;have h7:=hd.out.1;go_wp2;go_end0;obtain⟨ow',L',h1,h2,h3⟩:=HC.out.outs (h6.out.trans (hG.out.mono h6.out.size)) hF.out h6.out.size;rw[HM.out]at h1;exact⟨ow',L',rfl,h1,h2,h3⟩
theorem put_any (w:World) (ow:Nat->Tg) (b:Nat) (M:Cv) (L:Lay) (i:Inf) (cs:Array Value) (h:CN w ow b M L) (hcs:cs.size=18) (hi:BuF w i cs) (ho:M.out.length<=1000000000):
 Calls Tryz.prog 39 #[.pointer (some ⟨b,0,none⟩),.agg cs] w (CPost w ow b {M with out:=M.out++frameB i.typ (flg i) i.stream (pay i)} (.tuple #[])):=
 (put_anyL w ow b M L i cs h hcs hi ho).mono λ_ _ h=>h.cp
theorem CN.told {w:World} {ow:Nat->Tg} {b:Nat} {M:Cv} {L:Lay} (h:CN w ow b M L) {wA w8:World} {A:Option Addr} {n c:Nat} {e:EvV} (hb:Below w.heap.size w wA) (hO:Cm.Ew evC 43 7 w8 0 (.slice A n c) (M.evs++[e])) (hg:wA.grownBy w8 L.ev.ownBlock)
 (hv:(Value.slice A n c).ownBlock=L.ev.ownBlock\/(Value.slice A n c).ownBlock=some wA.heap.size) (he:EvOk w ow e):
 ∃ow' L',CN (w8.setCell ⟨b,7,none⟩ (.slice A n c)) ow' b {M with evs:=M.evs++[e]} L'/\Fr w ow (w8.setCell ⟨b,7,none⟩ (.slice A n c)) ow'/\L'.s=L.s:=by
 have h1:=h.below hb;have h4:∀g,L.ev.ownBlock=some g->ow g= .ev:=h.p.ev.own;have fin:∀ow',Kp (λx=>x= .ev) wA ow w8 ow'->(∀g,(Value.slice A n c).ownBlock=some g->ow' g= .ev)->(∀g,w8.heap.size<=g->ow' g= .no)->Fr w ow w8 ow'->
  ∃ow' L',CN (w8.setCell ⟨b,7,none⟩ (.slice A n c)) ow' b {M with evs:=M.evs++[e]} L'/\Fr w ow (w8.setCell ⟨b,7,none⟩ (.slice A n c)) ow'/\L'.s=L.s:=by
  intro ow' k ho h6 h7;have h5:=h1.blkK k (by decide);have h8:∀e'∈M.evs++[e],EvOk w8 ow' e':=λe' h9=>by
   have h0:EvOk wA ow e':=by
    rcases List.mem_append.1 h9 with h2|h2
    · exact h1.p.ev.each e' h2
    · obtain rfl:e'=e:=by simpa using h2
      exact he.keep hb.size λg hg hc=>⟨hb.block g hc,hg⟩
   exact h0.keep k.size (k.at_ .evd (by decide) (by decide))
  have hd:CP w8 ow' M.fed M.out (M.evs++[e]) M.inw M.outw M.strs M.list M.hp {L with ev:=.slice A n c}:=
   ⟨h1.p.fedK k (by decide),h1.p.outK k (by decide),⟨hO,ho,h8⟩,(h1.p.inwK k (by decide)).1,(h1.p.inwK k (by decide)).2,(h1.p.outwK k (by decide)).1,(h1.p.outwK k (by decide)).2,(h1.p.mapK k (by decide)).1,(h1.p.mapK k (by decide)).2,
     λs hs=>h1.p.strK k s hs (by intro j;simp),h1.p.lstK k (by decide) (by decide),h1.p.encK k (by decide),h1.p.decK k (by decide)⟩
  have hsz:(w8.setCell ⟨b,7,none⟩ (.slice A n c)).heap.size=w8.heap.size:=by simp[World.setCell]
  refine⟨ow',{L with ev:=.slice A n c},⟨h5.1.put 7 _,h5.2,hd.keep (by omega) λg _ hn _=>⟨Below.heap_setCell w8 _ _ g (λe=>hn (by rw[e];exact h5.2)),rfl⟩,λg hg=>h6 g (by omega)⟩,h7.trans ?_,rfl⟩;exact Fr.grown (grown_setCell (World.grownBy.refl w8 (some b)) 7 _) λg e=>by injection e with e;subst e;rw[h5.2];decide
 have hsz:=hg.size;have h3:Fr w ow w8 ow:=(Fr.below hb ow).trans (Fr.grown hg λg e=>by rw[h4 g e];decide);rcases hv with hv|hv
 · exact fin ow (Kp.row h1 hg h4) (λg e=>h4 g (hv▸e)) (λg hg=>h1.new g (by omega)) h3
 · have hf:wA.heap.size<w8.heap.size:=(hO.lt _ hv).2
   refine fin (upd ow wA.heap.size .ev) (Kp.rowNew h1 hg h4 _ (Nat.le_refl _)) (λg e=>?_) (λg hg=>?_) ⟨h3.os,h3.tape,h3.output,h3.size,h3.keep,λj hj ho=>?_⟩
   · rw[hv]at e;injection e with e;subst e;exact upd_same _ _ _
   · rw[upd_other _ _ (by omega)];exact h1.new g (by omega)
   · have:=hb.size
     rw[upd_other _ _ (by omega)];exact ho
theorem elEv:Cm.ElP Tryz.prog evC 33 43 7 88:=by
 refine⟨Tryz.underlying33,?_,λ_=>rfl,?_,by omega,by omega⟩
 · have h:(Tryz.prog.info? 43).map (λi=>(i.zero,i.size,i.bytes))=some (some (.agg #[.int .i64 0,.int .i64 0,.int .i64 0,.int .i64 0,.bool false,.slice none 0 0,.slice none 0 0]),7,88):=by kernel_rfl
   obtain⟨i,hi,hz,h1,h2⟩:=info_parts h;exact⟨i,_,hi,hz,h1,h2,rfl⟩
 · intro x u hu
   simp only[evC,List.mem_cons,List.not_mem_nil,or_false]at hu;rcases hu with rfl|rfl|rfl|rfl|rfl|rfl|rfl<;>rfl
theorem tell_anyL (w:World) (ow:Nat->Tg) (b:Nat) (M:Cv) (L:Lay) (e:EvV) (h:CN w ow b M L) (he:EvOk w ow e) (hn:M.evs.length<=900000):
 Calls Tryz.prog 109 #[.pointer (some ⟨b,0,none⟩),.agg (evC e)] w (CPostL w ow b L {M with evs:=M.evs++[e]} (.tuple #[])):=by
 obtain⟨A,c,hA,hc,_⟩:=h.p.ev.row.form;have HC:=hid h;have HE:=hid he;have HN:=hid hn;generalize hM:({M with evs:=M.evs++[e]}:Cv)=M';have HM:=hid hM;have HA:=hid hA;clear h he hn hM hA hc;obtain⟨k,st,co,la,fi,l1,l2,b1,b2,hl,bl⟩:=e;simp only[evC];generalize h8:hl.length=nl;generalize h9:bl.length=nb;have hb:Hid (evC ⟨k,st,co,la,fi,l1,l2,b1,b2,hl,bl⟩= #[.int .i64 (k:Nat),.int .i64 (st:Nat),.int .i64 (co:Nat),.int .i64 (la:Nat),.bool fi,.slice l1 nl l2,.slice b1 nb b2]):=hid (by simp only[evC,h8,h9]);clear h8 h9;go_enter Tryz.func109,Tryz.ntmps109;go_wp2;have h0:=hid (Blk.new w 43 #[.int .i64 (k:Nat),.int .i64 (st:Nat),.int .i64 (co:Nat),.int .i64 (la:Nat),.bool fi,.slice l1 nl l2,.slice b1 nb b2]);have h6:=hid ((Below.refl w.heap.size w).alloc (Nat.le_refl _) (.cells #[.int .i64 (k:Nat),.int .i64 (st:Nat),.int .i64 (co:Nat),.int .i64 (la:Nat),.bool fi,.slice l1 nl l2,.slice b1 nb b2] 43));generalize w.alloc (.cells #[.int .i64 (k:Nat),.int .i64 (st:Nat),.int .i64 (co:Nat),.int .i64 (la:Nat),.bool fi,.slice l1 nl l2,.slice b1 nb b2] 43)=W0 at*
 have h4:=hid (HC.out.below h6.out);have x0:W0.cell? ⟨w.heap.size,0,none⟩=some (.int .i64 (k:Nat)):=h0.out.cell 0;have x1:W0.cell? ⟨w.heap.size,1,none⟩=some (.int .i64 (st:Nat)):=h0.out.cell 1;have x2:W0.cell? ⟨w.heap.size,2,none⟩=some (.int .i64 (co:Nat)):=h0.out.cell 2;have x3:W0.cell? ⟨w.heap.size,3,none⟩=some (.int .i64 (la:Nat)):=h0.out.cell 3;have x4:W0.cell? ⟨w.heap.size,4,none⟩=some (.bool fi):=h0.out.cell 4;have x5:W0.cell? ⟨w.heap.size,5,none⟩=some (.slice l1 nl l2):=h0.out.cell 5;have x6:W0.cell? ⟨w.heap.size,6,none⟩=some (.slice b1 nb b2):=h0.out.cell 6;have c7:W0.cell? ⟨b,7,none⟩=some L.ev:=h4.out.blk.cell 7;rw[HA.out]at c7;have lb:=h4.out.blk.lt;have lx:=h0.out.lt;have hd:=hid (show Cm.Ew evC 43 7 (W0.drew.alloc (.cells #[.int .i64 (k:Nat),.int .i64 (st:Nat),.int .i64 (co:Nat),.int .i64 (la:Nat),.bool fi,.slice l1 nl l2,.slice b1 nb b2] 43)) 0 (.slice A M.evs.length c) M.evs from HA.out▸h4.out.p.ev.row.grown (show W0.grownBy _ none from⟨rfl,rfl,rfl,by simp,λk hk _=>Below.heap_alloc W0.drew _ k hk⟩) (Cm.own_or _));have hf:Hid (Cm.RS evC 7 (W0.drew.alloc (.cells #[.int .i64 (k:Nat),.int .i64 (st:Nat),.int .i64 (co:Nat),.int .i64 (la:Nat),.bool fi,.slice l1 nl l2,.slice b1 nb b2] 43)) (W0.drew.alloc (.cells #[.int .i64 (k:Nat),.int .i64 (st:Nat),.int .i64 (co:Nat),.int .i64 (la:Nat),.bool fi,.slice l1 nl l2,.slice b1 nb b2] 43)).heap.size (some ⟨W0.heap.size,0,none⟩) 1 [⟨k,st,co,la,fi,l1,l2,b1,b2,hl,bl⟩]):=hid (by
  have h:=(Cm.Ew.lit (k:=7) evC 43 (λ_=>rfl) W0.drew [⟨k,st,co,la,fi,l1,l2,b1,b2,hl,bl⟩] (by simp)).rs (λ_=>rfl) (by omega);have e1:(Cm.flat evC [⟨k,st,co,la,fi,l1,l2,b1,b2,hl,bl⟩]).toArray= #[.int .i64 (k:Nat),.int .i64 (st:Nat),.int .i64 (co:Nat),.int .i64 (la:Nat),.bool fi,.slice l1 nl l2,.slice b1 nb b2]:=by
   have e2:Cm.flat evC [⟨k,st,co,la,fi,l1,l2,b1,b2,hl,bl⟩]=(evC ⟨k,st,co,la,fi,l1,l2,b1,b2,hl,bl⟩).toList:=by simp[Cm.flat]
   rw[e2,hb.out]
  rw[e1]at h;exact h)
 have hh:=hid (show M.evs.length+1<=1000000 by have:=HN.out;omega);go_region_law
  ((refine Cm.step_app_e elEv _ (by rfl) (.tmp 8) (.tmp 10) (by rfl) 0 (.slice A M.evs.length c) M.evs (by rfl) hd.out _ (some ⟨W0.heap.size,0,none⟩) 1 1 [⟨k,st,co,la,fi,l1,l2,b1,b2,hl,bl⟩] (by rfl) hf.out hh.out (Nat.zero_le _) ?_
    intro A8 c8 w8 h5 hg hv;have hi:=hid hg;have hj:=hid h5;have hm:=hid hv;have h7:=(h4.out.drew.alloc (.cells #[.int .i64 (k:Nat),.int .i64 (st:Nat),.int .i64 (co:Nat),.int .i64 (la:Nat),.bool fi,.slice l1 nl l2,.slice b1 nb b2] 43)).blk.grown hg (λe=>by have h1:=h4.out.p.ev.own b (HA.out▸e.symm);rw[h4.out.tb]at h1;cases h1);have hq:w8.frozen? ⟨b,7,none⟩=false:=h7.frozen 7;have ho:w8.cell? ⟨b,7,none⟩=some L.ev:=h7.cell 7;rw[HA.out]at ho;clear h7 h5 hg hv))
 all_goals
  go_end0;obtain⟨ow',L',h1,h2,h3⟩:=HC.out.told (wA:=W0.drew.alloc (.cells #[.int .i64 (k:Nat),.int .i64 (st:Nat),.int .i64 (co:Nat),.int .i64 (la:Nat),.bool fi,.slice l1 nl l2,.slice b1 nb b2] 43)) (bdN h6.out 1 |>.alloc (by have:=h6.out.size;exact this) _) hj.out (HA.out▸hi.out) (HA.out▸hm.out) HE.out;rw[HM.out]at h1;exact⟨ow',L',rfl,h1,h2,h3⟩
theorem tell_any (w:World) (ow:Nat->Tg) (b:Nat) (M:Cv) (L:Lay) (e:EvV) (h:CN w ow b M L) (he:EvOk w ow e) (hn:M.evs.length<=900000):
 Calls Tryz.prog 109 #[.pointer (some ⟨b,0,none⟩),.agg (evC e)] w (CPost w ow b {M with evs:=M.evs++[e]} (.tuple #[])):=
 (tell_anyL w ow b M L e h he hn).mono λ_ _ h=>h.cp
theorem dead_any (w:World) (ow:Nat->Tg) (b:Nat) (M:Cv) (L:Lay) (h:CN w ow b M L):
 Calls Tryz.prog 16 #[.pointer (some ⟨b,0,none⟩)] w λe w'=>e= .returned (.tuple #[.int .i64 (M.code:Nat),.bool M.dead])/\∃n,w'=w.drewN n:=by
 have c20:w.cell? ⟨b,20,none⟩=some (.int .i64 (M.code:Nat)):=h.blk.cell 20;have c19:w.cell? ⟨b,19,none⟩=some (.bool M.dead):=h.blk.cell 19;clear h;generalize M.code=co at*
 generalize M.dead=de at*
 go_enter Tryz.func16,Tryz.ntmps16;go_wp2_with fail;go_quiet (fail);go_wp2;go_ret2;exact⟨rfl,_,rfl⟩
theorem known_any (w:World) (ow:Nat->Tg) (b:Nat) (M:Cv) (L:Lay) (id:Nat) (h:CN w ow b M L):
 Calls Tryz.prog 111 #[.pointer (some ⟨b,0,none⟩),.int .i64 (id:Nat)] w λe w'=>e= .returned (.bool (decide (id % 2=1/\id<=M.last)))/\w'=w:=by
 have c14:w.cell? ⟨b,14,none⟩=some (.int .i64 (M.last:Nat)):=h.blk.cell 14;clear h;generalize M.last=la at*
 obtain⟨q,hq⟩:∃q,id % 2=q:=⟨_,rfl⟩;have hm:((id:Int).tmod 2)=(q:Int):=by rw[<-hq];rfl
 have h2:((id:Int) % 2)=(q:Int):=by rw[<-hq];rfl
 rw[hq];by_cases h1:q=1
 · subst h1
   clear hq;go_enter Tryz.func111,Tryz.ntmps111;go_wp2;go_ret;exact⟨by simp,rfl⟩
 · have h3:((q:Int)==1)=false:=by simp;omega
   have h0:¬((q:Int)=1):=by omega
   have hd:decide (q=1/\id<=la)=false:=by simp[h1]
   rw[hd];clear hq h1 hd;go_enter Tryz.func111,Tryz.ntmps111;go_wp2;go_ret;exact⟨rfl,rfl⟩
end Go.Proofs.YtkpppjhbmnfmkaaGreatDoor
end

section
namespace Go.Proofs.YtkpppjhbmnfmkaaGreatDoor
open Go.RowKit Go.Own Go.Own.Im Go.Own.Cx Go.Own.Fr Go.Own.Hd
theorem ev_all {w:World} {B n j:Nat} {ad:Addr} {l:List EvV} {x:EvV} (h:Cm.RS evC 7 w B (some ad) n l) (hx:l[j]?=some x):
 w.cell? (ad.add (j*7))=some (.int .i64 (x.kind:Nat))/\w.cell? ⟨(ad.add (j*7)).block,(ad.add (j*7)).off+1,none⟩=some (.int .i64 (x.stream:Nat))/\w.cell? ⟨(ad.add (j*7)).block,(ad.add (j*7)).off+2,none⟩=some (.int .i64 (x.code:Nat))/\
 w.cell? ⟨(ad.add (j*7)).block,(ad.add (j*7)).off+3,none⟩=some (.int .i64 (x.last:Nat))/\w.cell? ⟨(ad.add (j*7)).block,(ad.add (j*7)).off+4,none⟩=some (.bool x.fin)/\
 w.cell? ⟨(ad.add (j*7)).block,(ad.add (j*7)).off+5,none⟩=some (.slice x.la x.l.length x.lc)/\w.cell? ⟨(ad.add (j*7)).block,(ad.add (j*7)).off+6,none⟩=some (.slice x.ba x.by_.length x.bc):=by
 have hj:j<n:=by rw[<-h.1];exact(List.getElem?_eq_some_iff.1 hx).1
 obtain⟨ad',x',e,h1,h0,hr⟩:=h.at2 hj;injection e with e
 subst e;rw[hx]at h1;injection h1 with h1
 subst h1;exact⟨h0,hr 1 _ (by decide) rfl,hr 2 _ (by decide) rfl,hr 3 _ (by decide) rfl,hr 4 _ (by decide) rfl,hr 5 _ (by decide) rfl,hr 6 _ (by decide) rfl⟩
end Go.Proofs.YtkpppjhbmnfmkaaGreatDoor
end

section
set_option maxHeartbeats 2000000
namespace Go.Proofs.YtkpppjhbmnfmkaaGreatDoor
open Lib (hid)
open Go.RowKit Go.Own Go.Own.Im Go.Own.Cx Go.Own.Fr
theorem may_yes (w:World) (g:Nat) (a:Int) (n:Nat) (h:Blk w g 177 #[.int .i64 a]) (hn:(n:Int)<=a\/n=0):
 Calls Tryz.prog 120 #[.pointer (some ⟨g,0,none⟩),.int .i64 (n:Nat)] w λe w'=>e= .returned .nilIface/\w'=w:=by
 have c0:w.cell? ⟨g,0,none⟩=some (.int .i64 a):=h.cell 0;have k0:((n:Int)<0)=False:=by simp
 clear h;rcases Nat.eq_zero_or_pos n with h0|h0
 · subst h0
   clear hn k0;go_enter Tryz.func120,Tryz.ntmps120;go_wp2;go_ret;exact⟨rfl,rfl⟩
 · have k1:((0:Int)<(n:Int))=True:=by simp;omega
   have k1':(0<n)=True:=by simp;omega
   have k2:(a<(n:Int))=False:=by simp;omega
   clear hn h0;go_enter Tryz.func120,Tryz.ntmps120;go_wp2;go_ret;exact⟨rfl,rfl⟩
theorem take_yes (w:World) (g:Nat) (a:Int) (n:Nat) (h:Blk w g 177 #[.int .i64 a]) (hn:(n:Int)<=a\/n=0) (ha: -2147483648<=a/\a<=2147483647) (hn2:n<=2147483647):
 Calls Tryz.prog 121 #[.pointer (some ⟨g,0,none⟩),.int .i64 (n:Nat)] w λe w'=>e= .returned .nilIface/\w'=w.setCell ⟨g,0,none⟩ (.int .i64 (a-(n:Int))):=by
 have c0:w.cell? ⟨g,0,none⟩=some (.int .i64 a):=h.cell 0;have f0:=h.frozen 0;have HM:=hid (may_yes w g a n h hn);have h0:wrap64 (a-(n:Int))=a-(n:Int):=by unfold wrap64;omega
 have h1:IntKind.i64.wrap (a-(n:Int))=a-(n:Int):=by rw[IntKind.wrap_i64];omega
 clear h hn ha hn2;go_enter Tryz.func121,Tryz.ntmps121;go_wp2_with fail;refine HM.out.mono ?_;rintro e w1 ⟨rfl,hw⟩;subst w1;go_wp2;go_ret;exact⟨rfl,rfl⟩
theorem shift_yes (w:World) (g:Nat) (a n:Int) (h:Blk w g 177 #[.int .i64 a]) (ha: -2147483647<=a/\a<=2147483647) (hn: -2147483647<=n/\n<=2147483647) (hs: -2147483647<=a+n/\a+n<=2147483647):
 Calls Tryz.prog 197 #[.pointer (some ⟨g,0,none⟩),.int .i64 n] w λe w'=>e= .returned .nilIface/\w'=w.setCell ⟨g,0,none⟩ (.int .i64 (a+n)):=by
 have c0:w.cell? ⟨g,0,none⟩=some (.int .i64 a):=h.cell 0;have f0:=h.frozen 0;have h0:wrap64 (a+n)=a+n:=by unfold wrap64;omega
 have h1:IntKind.i64.wrap (a+n)=a+n:=by rw[IntKind.wrap_i64];omega
 have k0:(n< -2147483647)=False:=by simp;omega
 have k1:((2147483647:Int)<n)=False:=by simp;omega
 have k2:((2147483647:Int)<a+n)=False:=by simp;omega
 have k3:(a+n< -2147483647)=False:=by simp;omega
 clear h ha hn hs;go_enter Tryz.func197,Tryz.ntmps197;go_wp2;go_ret;exact⟨rfl,rfl⟩
theorem give_yes (w:World) (g:Nat) (a:Int) (n:Nat) (h:Blk w g 177 #[.int .i64 a]) (ha: -2147483647<=a/\a<=2147483647) (h0:1<=n) (hs:a+n<=2147483647) (hn:n<=2147483647):
 Calls Tryz.prog 159 #[.pointer (some ⟨g,0,none⟩),.int .i64 (n:Nat)] w λe w'=>e= .returned .nilIface/\w'=w.setCell ⟨g,0,none⟩ (.int .i64 (a+(n:Int))):=by
 have HS:=hid (shift_yes w g a n h ha (by omega) (by omega));have k0:((n:Int)<1)=False:=by simp;omega
 clear h ha h0 hs hn;go_enter Tryz.func159,Tryz.ntmps159;go_wp2_with fail;refine HS.out.mono ?_;rintro e w1 ⟨rfl,hw⟩;rw[hw];go_wp2;go_ret;exact⟨rfl,rfl⟩
end Go.Proofs.YtkpppjhbmnfmkaaGreatDoor
end
