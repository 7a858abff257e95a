/-
  
  
  
  
-/
import Derived.Test.YtkpppjhbmnfmkaaGreatDoorJak
import Derived.Test.YtkpppjhbmnfmkaaGreatDoorJae
import Derived.Lib.SlKeysI
import Derived.Test.YtkpppjhbmnfmkaaGreatDoorJab
import Derived.Deep.RegionHeld3
import Derived.Deep.DrawnRows
import Derived.Deep.CutBlock
import Derived.BigQuiet
set_option linter.unusedSimpArgs false
set_option linter.unusedVariables false
section
set_option maxHeartbeats 2000000
namespace Go.Proofs.YtkpppjhbmnfmkaaGreatDoor
open Lib (hid)
open Go.RowKit Go.Own Go.Own.Im Go.Own.Cx Go.Maps Go.Sort Go.Shelf
theorem sorts_in (m:Nat):AnyZI.SortsIn Tryz.prog Tryz.sortedA_ren Fence.wide m:=
 ⟨λblk off cap ss W hH h0 hsz=>callsIn_wide.2 (AnyM.slices_Sort_int Tryz.sortA blk off cap ss W hH h0 hsz),
  λp cap W=>callsIn_wide.2 (AnyM.slices_Sort_int_none Tryz.sortA p cap W)⟩
theorem sorted_ids {w:World} {b:Nat} {ks:List Nat} {f:Nat->Value} {D:DataW Value} (h0:w.ownsMap Tryz.prog 3 Rh b ks.length D) (hh:∀k:Int,Maps.has D (il k)=ks.any λi:Nat=>decide ((i:Int)=k)) (hs:ks.Pairwise (·<·)) {ss:List Int} (hp:ss.Perm (intKeys D)):
 ss.mergeSort (λx y=>decide (x<=y))=ks.map λi:Nat=>(i:Int):=by
 obtain⟨es,hD,h4,h8⟩:=h0.entries (Maps.int_keyed Tryz.underlying3);obtain⟨es',h3,h5⟩:=h0.keysOf;obtain rfl:es=es':=by rw[hD]at h3;simpa using h3
 subst hD;have hk:∀p∈es,∃x,p.1= .int .i64 x:=λp h6=>by
  obtain⟨v,hv⟩:=h5 p h6;obtain⟨x,_,hx,_⟩:=Maps.keyOf_i64 Tryz.underlying3 hv;exact⟨x,hx⟩
 have h7:(ks.map λi:Nat=>(i:Int)).Nodup:=by
  rw[List.Nodup,List.pairwise_map];exact hs.imp λh e=>by omega
 have h1:=perm_intKeys h4 hk (ss:=ks.map λi:Nat=>(i:Int)) h7 λx=>by
  rw[show(Lit.int .i64 x)=il x from rfl,hh x,List.any_eq_true,List.mem_map];constructor
  · rintro⟨i,hi,rfl⟩;exact⟨i,hi,by simp⟩
  · rintro⟨i,hi,e⟩;exact⟨i,hi,by simpa using e⟩
 have h2:=mergeSort_of_perm_i (hp.trans h1.symm);refine h2.trans (List.mergeSort_of_pairwise ?_);rw[List.pairwise_map];exact hs.imp λh=>by simp;omega
theorem ids_any (w:World) (ow:Nat->Tg) (b:Nat) (M:Cv) (L:Lay) (h:CN w ow b M L) (hs:(M.strs.map (·.id)).Pairwise (·<·)) (hn:M.strs.length<=1000000):
 Calls Tryz.prog 42 #[.pointer (some ⟨b,0,none⟩)] w λe w'=>∃v,e= .returned v/\w'.ownsRow w.heap.size 3 1 v M.strs.length ((M.strs.map λs=>(s.id:Int)).map encZ)/\Below w.heap.size w w':=by
 have c15:w.cell? ⟨b,15,none⟩=some (.map (some L.mb)):=h.blk.cell 15;obtain⟨D,h1,_,hsz,hh,_⟩:=h.p.map;have h6:=h1.lt;have h7:=hid (λ(ss:List Int) (hp:ss.Perm (intKeys D))=>sorted_ids (f:=λ_=>.nilIface) h1 hh hs hp);have h3:Maps.size D=M.strs.length:=by rw[hsz];simp
 have h5:Maps.size D<=maxLen:=by rw[h3];simp only[maxLen];omega
 have h0:Maps.size D*8<=140737488355328:=by omega
 clear h hs hh hsz h3;refine(callsIn_wide (n:=6)).1 ?_;have h4:SeqGives Fence.wide 2 Tryz.prog 118 #[.pointer (some ⟨w.heap.size,0,none⟩)] encZ (λss=>ss.Perm (intKeys D)) (Maps.size D) (w.alloc (.cells #[.map (some L.mb)] 74)):=
  AnyZI.keys_gives (ρ:=Tryz.keysA_ren) {Tryz.keysA with} Fence.wide _ trivial rfl (by omega) w.heap.size L.mb _ D _ (by simp) (by simp) (by
   obtain⟨es,clock,hb,Ft,hs,hD⟩:=h1;exact⟨es,clock,(Below.heap_alloc _ _ L.mb h6).trans hb,Ft,hs,hD⟩)
 have cK:∀mb W,CallsIn Fence.wide 5 Tryz.prog 74 #[.map mb] W λe w'=>e= .returned (.func (.func 118) #[] #[.pointer (some ⟨W.heap.size,0,none⟩)])/\w'=W.alloc (.cells #[.map mb] 74):=λmb W=>AnyZI.keys_in Tryz.keysA Fence.wide 5 trivial rfl mb W;have cS:=AnyZI.sorted_in Tryz.sortedA Fence.wide 5 trivial trivial trivial trivial rfl (by omega) (sorts_in _) (enters_of Tryz.func117 (by kernel_rfl) rfl) 118 #[.pointer (some ⟨w.heap.size,0,none⟩)] trivial (enters_of Tryz.func118 (by kernel_rfl) rfl) _ _ h5 h0 _ h4;change CallsIn _ _ Tryz.prog 73 _ _ _ at cS;have hc:Fence.wide.fn 74:=trivial;have hd:Fence.wide.fn 73:=trivial;clear h1 h5 h0;refine callsIn_of_wp Tryz.func42 rfl trivial ?_ rfl;simp only[Tryz.ntmps42,List.size_toArray,List.length_cons,List.length_nil,Nat.reduceAdd,Nat.reduceSub,Array.replicate_succ,Array.replicate_zero,List.push_toArray,List.append_toArray,List.nil_append,List.cons_append]
 gi_wp2_with (first
  |(gi_at_call 74;refine(cK _ _).mono ?_;rintro e w' ⟨rfl,rfl⟩)
  |(gi_at_call 73;refine cS.mono ?_;rintro e w' ⟨v,ss,rfl,hS,h2,h8,hb⟩))
 go_ret;have e1:=h7.out ss hS;rw[e1]at h2;have e2:ss.length=M.strs.length:=by have:=congrArg List.length e1;simpa using this
 rw[e2]at h2;refine⟨v,rfl,?_,((Below.refl _ w).alloc (Nat.le_refl _) _).trans (hb.mono (by simp))⟩;have h9:w'.ownsRow w.heap.size 3 1 v M.strs.length (((M.strs.map (·.id)).map λi:Nat=>(i:Int)).map encZ):=ownsRow_base_a (base':=w.heap.size) h2 (by simp);have e3:((M.strs.map (·.id)).map λi:Nat=>(i:Int))=M.strs.map λs=>(s.id:Int):=by rw[List.map_map];rfl
 rw[e3]at h9;exact h9
theorem streams_any (w:World) (ow:Nat->Tg) (b:Nat) (M:Cv) (L:Lay) (h:CN w ow b M L) (hs:(M.strs.map (·.id)).Pairwise (·<·)) (hn:M.strs.length<=1000000):
 Calls Tryz.prog 21 #[.pointer (some ⟨b,0,none⟩)] w λe w'=>∃A c,e= .returned (.slice A M.strs.length c)/\w'.ownsRow w.heap.size 3 1 (.slice A M.strs.length c) M.strs.length ((M.strs.map λs=>(s.id:Int)).map encZ)/\Below w.heap.size w w':=by
 have HI:=hid (ids_any w ow b M L h hs hn);clear h hs hn;go_enter Tryz.func21,Tryz.ntmps21;go_wp2_with fail;with_reducible refine HI.out.mono ?_
 rintro e w' ⟨v,rfl,ho,hb⟩;have hv:∃A c,v= .slice A M.strs.length c:=by
  rcases ho.2 with⟨rfl,h0⟩|⟨g,cap,cur,rfl,_⟩
  · exact⟨none,0,by rw[h0]⟩
  · exact⟨_,_,rfl⟩
 obtain⟨A,c,rfl⟩:=hv;have HO:=hid ho;have HB:=hid hb;clear ho hb;go_wp2;go_ret;exact⟨A,c,rfl,HO.out,HB.out⟩
def strAt (M:Cv) (id:Int):Option Sv:=M.strs.find? λs=>decide ((s.id:Int)=id)
theorem at_none {M:Cv} {L:Lay} {id:Int} (h:strAt M id=none):atI (M.strs.map (·.id)) (sptr L) (.pointer none) id= .pointer none:=by
 unfold atI;rw[List.find?_map];unfold strAt at h;rw[show((λi:Nat=>decide ((i:Int)=id))∘λx:Sv=>x.id)=λs:Sv=>decide ((s.id:Int)=id)from rfl,h]
 rfl
theorem at_some {M:Cv} {L:Lay} {id:Int} {s:Sv} (h:strAt M id=some s):atI (M.strs.map (·.id)) (sptr L) (.pointer none) id= .pointer (some ⟨(L.s s.id).sb,0,none⟩)/\s∈M.strs/\(s.id:Int)=id:=by
 unfold strAt at h;refine⟨?_,List.mem_of_find?_eq_some h,by simpa using List.find?_some h⟩;unfold atI;rw[List.find?_map];rw[show((λi:Nat=>decide ((i:Int)=id))∘λx:Sv=>x.id)=λs:Sv=>decide ((s.id:Int)=id)from rfl,h]
 rfl
theorem look_str {w:World} {ow:Nat->Tg} {b:Nat} {M:Cv} {L:Lay} (h:CN w ow b M L) (id:Int) (hw:(Lit.int .i64 id).wf=true):(Instr.lookup 74 (.map (some L.mb)) (.int .i64 id) false).run Tryz.prog w= .ok (atI (M.strs.map (·.id)) (sptr L) (.pointer none) id) w:=
 h.p.map.look Tryz.underlying74 Tryz.underlying3 (zero_strm w) hw
end Go.Proofs.YtkpppjhbmnfmkaaGreatDoor
end

section
set_option maxHeartbeats 2000000
set_option maxRecDepth 100000
namespace Go.Proofs.YtkpppjhbmnfmkaaGreatDoor
open Go.RowKit Go.Own Go.Own.Im Go.Own.Cx Go.Own.Fr
def Still (s:Sv):Prop:=s.waits=[]/\s.own≠2
theorem sends_still (w:World) (ow:Nat->Tg) (co:Nat) (l:SLay) (s:Sv) (cv:Value) (h:SN w ow co l s) (hs:Still s):
 Calls Tryz.prog 43 #[cv,.pointer (some ⟨l.sb,0,none⟩)] w λe w'=>e= .returned (.bool false)/\w'=w:=by
 obtain⟨A,c,e,_,_⟩:=h.waits.form;rw[hs.1]at e;have d6:w.cell? ⟨l.sb,6,none⟩=some l.waits:=h.blk.cell 6;rw[e]at d6;have d1:w.cell? ⟨l.sb,1,none⟩=some (.int .i64 (s.own:Nat)):=h.blk.cell 1;have h2:¬(s.own:Int)=2:=by have:=hs.2;omega
 have h1:((s.own:Int)==2)=false:=by simpa using h2
 have h0:((s.own:Int) != 2)=true:=by simpa using h2
 simp only[List.length_nil]at d6;clear h hs e;generalize s.own=own at*
 generalize l.sb=sb at*
 go_enter Tryz.func43,Tryz.ntmps43;go_wp2;go_ret;exact⟨rfl,rfl⟩
theorem strAt_mem:∀{l:List Sv},(l.map (·.id)).Pairwise (·<·)->∀{s:Sv},s∈l->l.find? (λx=>decide ((x.id:Int)=(s.id:Int)))=some s
 |[],_,_,h=>by cases h
 |x::l,hp,s,h=>by
  rw[List.map_cons,List.pairwise_cons]at hp;rcases List.mem_cons.1 h with rfl|h
  · simp
  · have h1:=hp.1 s.id (List.mem_map.2 ⟨s,h,rfl⟩)
    have h2:¬((x.id:Int)=(s.id:Int)):=by omega
    rw[List.find?_cons_of_neg (by simpa using h2)];exact strAt_mem hp.2 h
theorem CN.gives {w:World} {ow:Nat->Tg} {b:Nat} {M:Cv} {L:Lay} (h:CN w ow b M L) {A:Option Addr} {c:Nat} (hL:L.out= .slice A M.out.length c):
 ∃ow' L',CN (w.setCell ⟨b,6,none⟩ (.slice none 0 0)) ow' b {M with out:=[]} L'/\Fr w ow (w.setCell ⟨b,6,none⟩ (.slice none 0 0)) ow'/\(0<M.out.length->∀ad,A=some ad->ow' ad.block= .no/\(24<M.out.length->UF (w.setCell ⟨b,6,none⟩ (.slice none 0 0)) ad.block)/\ow ad.block= .out)/\Rd (w.setCell ⟨b,6,none⟩ (.slice none 0 0)) w.heap.size A M.out.length M.out:=by
 have h7:=h.p.out.2;have ho:=h.p.out.1;rw[hL]at ho;have hr:=ho.rd;obtain⟨A',c',e,h1,h2,h3⟩:=ho;injection e with e1 e2 e3
 subst e1 e3;have hsz:(w.setCell ⟨b,6,none⟩ (.slice none 0 0)).heap.size=w.heap.size:=by simp[World.setCell]
 have key:∀ow',Kp (λx=>x= .out) w ow w ow'->(∀g,w.heap.size<=g->ow' g= .no)->(∀g,g<w.heap.size->ow g= .no->ow' g= .no)->
  ∃L',CN (w.setCell ⟨b,6,none⟩ (.slice none 0 0)) ow' b {M with out:=[]} L'/\Fr w ow (w.setCell ⟨b,6,none⟩ (.slice none 0 0)) ow':=by
  intro ow' k h8 hk;have h5:=h.blkK k (by decide);have h9:CP w ow' M.fed [] M.evs M.inw M.outw M.strs M.list M.hp {L with out:=.slice none 0 0}:=
   ⟨h.p.fedK k (by decide),OzF.nil _ _,h.p.evK k (by decide) (by decide),(h.p.inwK k (by decide)).1,(h.p.inwK k (by decide)).2,(h.p.outwK k (by decide)).1,(h.p.outwK k (by decide)).2,(h.p.mapK k (by decide)).1,(h.p.mapK k (by decide)).2,
     λs hs=>h.p.strK k s hs (by intro j;simp),h.p.lstK k (by decide) (by decide),h.p.encK k (by decide),h.p.decK k (by decide)⟩
  refine⟨{L with out:=.slice none 0 0},⟨h5.1.put 6 _,h5.2,h9.keep (by omega) λg _ hn _=>⟨Below.heap_setCell w _ _ g (λe=>hn (by rw[e];exact h5.2)),rfl⟩,λg hg=>h8 g (by omega)⟩,?_⟩;refine⟨rfl,rfl,rfl,by omega,λg hg hn=>Below.heap_setCell w _ _ g (λe=>?_),hk⟩;rw[e,h.tb]at hn;cases hn
 have h6:Rd (w.setCell ⟨b,6,none⟩ (.slice none 0 0)) w.heap.size A M.out.length M.out:=by
  refine⟨hr.1,λhn=>?_⟩;obtain⟨ad,ea,hb,hc⟩:=hr.2 hn;obtain⟨g,off,eg,h4,_⟩:=h3 (by omega);refine⟨ad,ea,hb,λj hj=>(World.cell?_of_block (a:=ad.add j) ?_).trans (hc j hj)⟩;rw[add_block];refine Below.heap_setCell w _ _ _ (λe=>?_);rw[ea]at eg;injection eg with eg
  rw[eg]at e;simp only at e;rw[e,h.tb]at h4;cases h4
 rcases Nat.eq_zero_or_pos M.out.length with h0|h0
 · obtain⟨L',r1,r2⟩:=key ow ⟨Nat.le_refl _,λ_ _ _ _=>⟨rfl,rfl⟩⟩ h.new (λ_ _ h=>h)
   exact⟨ow,L',r1,r2,λhn=>by omega,h6⟩
 · obtain⟨g,off,eg,h4,hd,_⟩:=h3 (by omega)
   obtain⟨L',r1,r2⟩:=key (upd ow g .no) ⟨Nat.le_refl _,λj _ hj _=>⟨rfl,upd_other _ _ (λe=>hj (by rw[e];exact h4))⟩⟩ (λj hj=>by rw[upd_other _ _ (by omega)];exact h.new j hj) (λj _ hj=>by
    by_cases e:j=g
    · rw[e];exact upd_same _ _ _
    · rw[upd_other _ _ e];exact hj)
   exact⟨_,L',r1,r2,λ_ ad ea=>⟨by rw[eg]at ea;injection ea with ea;subst ea;exact upd_same _ _ _,λhl=>(h7 hl ad _ _ (by rw[hL,ea])).same (Below.heap_setCell w _ _ _ (λe=>by
    rw[eg]at ea;injection ea with ea
    subst ea;simp only at e;rw[e,h.tb]at h4;cases h4)),by rw[eg]at ea;injection ea with ea;subst ea;exact h4⟩,h6⟩
def OutPost (w:World) (ow:Nat->Tg) (b:Nat) (M:Cv) (e:Ending) (w':World):Prop:=
 ∃A c ow' L',e= .returned (.slice A M.out.length c)/\M.out.length<=c/\Rd w' w'.heap.size A M.out.length M.out/\(0<M.out.length->∀ad,A=some ad->ow' ad.block= .no/\(24<M.out.length->UF w' ad.block)/\(ow ad.block= .no->w.heap.size<=ad.block))/\CN w' ow' b {M with out:=[]} L'/\Fr w ow w' ow'
theorem output_still (w:World) (ow:Nat->Tg) (b:Nat) (M:Cv) (L:Lay) (h:CN w ow b M L) (hs:(M.strs.map (·.id)).Pairwise (·<·)) (hn:M.strs.length<=1000000) (hid:∀s∈M.strs,s.id<=2147483647) (h5:M.dead=true\/∀s∈M.strs,Still s):
 Calls Tryz.prog 13 #[.pointer (some ⟨b,0,none⟩)] w (OutPost w ow b M):=by
 have c19:w.cell? ⟨b,19,none⟩=some (.bool M.dead):=h.blk.cell 19;have HC:=Lib.hid h;have HI:=Lib.hid (λW (hb:Below w.heap.size w W)=>ids_any W ow b M L (h.below hb) hs hn);have hj:=Lib.hid hid;have h7:=Lib.hid hs;have h4:=Lib.hid (λ(W:World) (hb:Below w.heap.size w W) (A:Option Addr) (c:Nat) (hL:L.out= .slice A M.out.length c)=>(show OutPost w ow b M (.returned (.slice A M.out.length c)) (W.setCell ⟨b,6,none⟩ (.slice none 0 0))from by
  obtain⟨ow',L',r1,r2,r3,r4⟩:=(h.below hb).gives hL;obtain⟨A2,c2,e,h1,_⟩:=h.p.out.1.form;rw[hL]at e;injection e with _ _ e
  subst e;exact⟨A,c,ow',L',rfl,h1,r4.more (by simp[World.setCell]),λhp ad ha=>⟨(r3 hp ad ha).1,(r3 hp ad ha).2.1,λhx=>by rw[(r3 hp ad ha).2.2]at hx;cases hx⟩,r1,(Fr.below hb ow).trans r2⟩))
 obtain⟨A,c,hL,_,_⟩:=h.p.out.1.form;have HL:=Lib.hid hL;clear h hs hid hL;by_cases hd:M.dead=true
 · rw[hd]at c19
   have c6:w.cell? ⟨b,6,none⟩=some L.out:=HC.out.blk.cell 6;rw[HL.out]at c6;have f6:=HC.out.blk.frozen 6;clear h5 hd;go_enter Tryz.func13,Tryz.ntmps13;go_wp2;go_loop [3] (λt=>t= .bool false) (λ_=>0)
   case atStart=>rfl
   case round=>
    obtain rfl:=hrel;go_wp2;go_ret;exact h4.out w (Below.refl _ _) A c HL.out
 · have hc:M.dead=false:=by simpa using hd
   rw[hc]at c19;have hl:=Lib.hid (h5.resolve_left hd);have hq:maxLen=9223372036854775807:=rfl;clear h5 hd hc;go_enter Tryz.func13,Tryz.ntmps13;go_wp2;go_loopw [3] (λt wr=>Hid ((t= .bool true/\wr=w)\/(t= .bool false/\Below w.heap.size w wr))) (λt _=>match t with| .bool true=>1|_=>0)
   case atStart=>exact Lib.hid (.inl ⟨rfl,rfl⟩)
   case round=>
    rcases hrel.out with⟨rfl,rfl⟩|⟨rfl,hb⟩
    · clear hrel
      go_wp2_with (first
       |(go_at_call 42
         with_reducible refine Calls.mono (HI.out _ (Below.refl _ _)) ?_
         rintro e w1 ⟨v,rfl,h3,he⟩;have h8:=Lib.hid h3;have hf:=Lib.hid he;have hv:∃A c,v= .slice A M.strs.length c/\M.strs.length<=c:=by
          rcases h3.2 with⟨rfl,h0⟩|⟨g,cap,cur,rfl,_,_,h1,_⟩
          · exact⟨none,0,by rw[h0],by omega⟩
          · exact⟨_,_,rfl,h1⟩
         obtain⟨A1,c1,rfl,_⟩:=hv;clear h3 he)
       |fail)
      have h6:=Lib.hid (HC.out.below hf.out);go_loop [3,16] (λt3 t16=>t3= .bool false/\∃k:Nat,k<=M.strs.length/\t16= .int .i64 (k:Nat)) (λ_ t16=>M.strs.length-(intOf t16).toNat)
      case atStart=>exact⟨rfl,0,Nat.zero_le _,rfl⟩
      case round=>
       obtain⟨rfl,k,hk,rfl⟩:=hrel;by_cases hh:k<M.strs.length
       · obtain⟨s,hs⟩:∃s,M.strs[k]?=some s:=⟨_,List.getElem?_eq_getElem hh⟩
         have h2:=List.mem_of_getElem? hs;have h9:=hj.out s h2;have hcell:∃g,A1=some ⟨g,0,none⟩/\w1.cell? ⟨g,k,none⟩=some (.int .i64 (s.id:Nat)):=by
          have hr:=h8.out;rcases hr.2 with⟨e,h0⟩|⟨g,cap,cur,e,_⟩
          · omega
          · injection e with e1 e2 e3
            subst e1;refine⟨g,rfl,?_⟩;have:=World.ownsRow.cells hr (g:=g) rfl k (.int .i64 (s.id:Nat)) (by simp[hs,encZ]);rw[Addr.add_lit,Nat.zero_add]at this;exact this
         obtain⟨g,rfl,hcell⟩:=hcell;have hi:(Lit.int .i64 (s.id:Int)).wf=true:=by simp[Lit.wf,IntKind.min,IntKind.max,IntKind.bits,IntKind.signed];omega
         have hm:=look_str h6.out (s.id:Int) hi;rw[(at_some (L:=L) (strAt_mem h7.out h2)).1]at hm;have c15:w1.cell? ⟨b,15,none⟩=some (.map (some L.mb)):=h6.out.blk.cell 15;have ho:=Lib.hid (λcv=>sends_still w1 ow L.ob (L.s s.id) s cv (h6.out.p.strs s h2) (hl.out s h2));have HK:=Lib.hid hh;clear hs h2 h9 hi;go_wp2_with (first
          |(go_at_call 43
            with_reducible refine Calls.mono (ho.out _) ?_
            rintro e w' ⟨rfl,hw⟩;subst w')
          |fail)
         exact⟨⟨rfl,k+1,HK.out,by go_num⟩,by have:=HK.out;simp[intOf];omega⟩
       · have ht:¬((k:Int)<(M.strs.length:Int)):=by omega
         go_wp2;exact⟨Lib.hid (.inr ⟨rfl,hf.out⟩),by simp⟩
    · have HB:=Lib.hid hb
      have c6:wr.cell? ⟨b,6,none⟩=some L.out:=(HC.out.below hb).blk.cell 6;rw[HL.out]at c6;have f6:=(HC.out.below hb).blk.frozen 6;clear hrel hb;go_wp2;go_ret;exact h4.out wr HB.out A c HL.out
end Go.Proofs.YtkpppjhbmnfmkaaGreatDoor
end

section
set_option maxHeartbeats 8000000
set_option maxRecDepth 100000
namespace Go.Proofs.YtkpppjhbmnfmkaaGreatDoor
open Go.RowKit Go.Own Go.Own.Im Go.Own.Cx Go.Own.Fr
attribute [local go_sem] Oper.semAt_some
def extT (ow:Nat->Tg) (n:Nat) (T:Nat->Tg):Nat->Tg:=λj=>if j<n then ow j else T j
theorem extT_old {ow:Nat->Tg} {n:Nat} {T:Nat->Tg} {j:Nat} (h:j<n):extT ow n T j=ow j:=if_pos h
theorem extT_new {ow:Nat->Tg} {n:Nat} {T:Nat->Tg} {j:Nat} (h:n<=j):extT ow n T j=T j:=if_neg (by omega)
def stT (id n:Nat):Nat->Tg:=λj=>if j=n+2 then .st id 0 else if j=n then .st id 1 else if j=n+1 then .st id 2 else if j=n+4 then .st id 3 else if j=n+3 then .st id 4 else .no
def stL (n:Nat):SLay:={sb:=n+2,ib:=n,ob:=n+1,pb:=n+4,rb:=n+3}
theorem CN.opens {w w1 w2:World} {ow:Nat->Tg} {b:Nat} {M:Cv} {L:Lay} (h:CN w ow b M L) (id:Nat) (h2:∀s∈M.strs,s.id≠id) (hb:Below w.heap.size w w1) (hsz:w1.heap.size=w.heap.size+5)
 (k0:Blk w1 (w.heap.size+2) 122 (stC {id:=id,inw:=M.window,outw:=M.others} (stL w.heap.size)))
 (k1:Blk w1 w.heap.size 177 #[.int .i64 M.window]) (k2:Blk w1 (w.heap.size+1) 177 #[.int .i64 M.others])
 (k3:Blk w1 (w.heap.size+4) 206 #[.slice (some ⟨w.heap.size+3,0,none⟩) 2 2]) (k4:Blk w1 (w.heap.size+3) 75 #[.pointer (some ⟨L.ob,0,none⟩),.pointer (some ⟨w.heap.size+1,0,none⟩)])
 (hm:SM Tryz.prog 3 w2 L.mb (M.strs.map (·.id)++[id]) (λi=>if i=id then .pointer (some ⟨w.heap.size+2,0,none⟩)else sptr L i)) (hg:w1.grownBy w2 (some L.mb)) (h8:w2.heap.size=w1.heap.size):
 ∃ow' L',CN w2 ow' b {M with strs:=M.strs++[{id:=id,inw:=M.window,outw:=M.others}]} L'/\Fr w ow w2 ow'/\(L'.s id).sb=w.heap.size+2/\(∀j,w1.heap.size<=j->ow' j= .no)/\(∀j,j<w.heap.size->ow' j=ow j)/\∀j,j<w.heap.size->ow j≠ .map->w2.heap[j]?=w.heap[j]?:=by
 have h1:=h.p.tm;have h6:=h.p.map.lt;have h9:=h.blk.lt;have keep:∀g,g<w.heap.size->g≠L.mb->w2.heap[g]?=w.heap[g]?:=λg h0 hne=>(hg.block g (by omega) (λe=>hne (by injection e))).trans (hb.block g h0);have k:Kp (λx=>x= .map) w ow w2 (extT ow w.heap.size (stT id w.heap.size)):=
  ⟨by omega,λg hn ht h0=>⟨keep g h0 (λe=>ht (by rw[e];exact h1)),extT_old h0⟩⟩
 have nw:∀{g:Nat} {t:TypeId} {cs:Array Value},Blk w1 g t cs->w.heap.size<=g->Blk w2 g t cs:=λhk h3=>hk.grown hg (λe=>by injection e with e;omega);have tg:∀(j:Nat) (t:Tg),stT id w.heap.size j=t->w.heap.size<=j->extT ow w.heap.size (stT id w.heap.size) j=t:=λj t e h3=>(extT_new h3).trans e;have h4:=h.blkK k (by decide);have h7:CP w2 (extT ow w.heap.size (stT id w.heap.size)) M.fed M.out M.evs M.inw M.outw (M.strs++[{id:=id,inw:=M.window,outw:=M.others}]) M.list M.hp {L with s:=λi=>if i=id then stL w.heap.size else L.s i}:=by
  refine⟨h.p.fedK k (by decide),h.p.outK k (by decide),h.p.evK k (by decide) (by decide),(h.p.inwK k (by decide)).1,(h.p.inwK k (by decide)).2,(h.p.outwK k (by decide)).1,(h.p.outwK k (by decide)).2,?_,(extT_old h6).trans h1,?_,h.p.lstK k (by decide) (by decide),h.p.encK k (by decide),h.p.decK k (by decide)⟩
  · rw[List.map_append]
    refine hm.same λi _=>?_;by_cases e:i=id
    · simp[sptr,e,stL]
    · simp[sptr,e]
  · intro s hs
    rcases List.mem_append.1 hs with hs|hs
    · have hne:=h2 s hs
      have:=h.p.strK k s hs (by intro j;simp);show SN w2 _ L.ob (if s.id=id then stL w.heap.size else L.s s.id) s;rw[if_neg hne];exact this
    · obtain rfl:s={id:=id,inw:=M.window,outw:=M.others}:=by simpa using hs
      show SN w2 _ L.ob (if id=id then stL w.heap.size else L.s id) _;rw[if_pos rfl];exact⟨nw k0 (by simp[stL]),tg _ _ (by simp[stT,stL]) (by simp[stL]),nw k1 (by simp[stL]),tg _ _ (by simp[stT,stL]) (by simp[stL]),nw k2 (by simp[stL]),tg _ _ (by simp[stT,stL]) (by simp[stL]),nw k3 (by simp[stL]),tg _ _ (by simp[stT,stL]) (by simp[stL]),
       nw k4 (by simp[stL]),tg _ _ (by simp[stT,stL]) (by simp[stL]),Oz.nil _ _⟩
 have h5:∀j,w1.heap.size<=j->extT ow w.heap.size (stT id w.heap.size) j= .no:=λj hj=>(extT_new (by omega)).trans (by unfold stT;rw[if_neg (by omega),if_neg (by omega),if_neg (by omega),if_neg (by omega),if_neg (by omega)]);refine⟨_,{L with s:=λi=>if i=id then stL w.heap.size else L.s i},⟨h4.1,h4.2,h7,λg hc=>h5 g (by omega)⟩,⟨hg.os.trans hb.os,hg.tape.trans hb.tape,hg.output.trans hb.output,by omega,λg h0 hn=>keep g h0 (λe=>by rw[e,h1]at hn;cases hn),λg h0 hn=>(extT_old h0).trans hn⟩,by simp[stL],h5,λj hj=>extT_old hj,λj hj hn=>keep j hj (λe=>hn (by rw[e];exact h1))⟩
theorem opens_any (w:World) (ow:Nat->Tg) (b:Nat) (M:Cv) (L:Lay) (id:Nat) (h:CN w ow b M L) (h6:∀s∈M.strs,s.id≠id) (hid:id<=2147483647) (h0:0<=M.window/\M.window<=2147483647) (h1:0<=M.others/\M.others<=2147483647) (hn:M.strs.length<=1000000):
 Calls Tryz.prog 59 #[.pointer (some ⟨b,0,none⟩),.int .i64 (id:Nat)] w λe w'=>e= .returned (.pointer (some ⟨w.heap.size+2,0,none⟩))/\∃ow' L',CN w' ow' b {M with strs:=M.strs++[{id:=id,inw:=M.window,outw:=M.others}]} L'/\Fr w ow w' ow'/\(L'.s id).sb=w.heap.size+2/\(∀j,w'.heap.size<=j->ow' j= .no)/\(∀j,j<w.heap.size->ow' j=ow j)/\∀j,j<w.heap.size->ow j≠ .map->w'.heap[j]?=w.heap[j]?:=by
 have HC:=Lib.hid h;have h7:=Lib.hid h6;have hc:=Lib.hid (λW (hb:Below w.heap.size w W)=>(show W.cell? ⟨b,10,none⟩=some (.int .i64 M.window)/\W.cell? ⟨b,11,none⟩=some (.int .i64 M.others)from⟨(h.below hb).blk.cell 10,(h.below hb).blk.cell 11⟩));have hT:=Lib.hid (λW (hb:Below w.heap.size w W) (hz:W.heap.size=w.heap.size)=>(show Calls Tryz.prog 35 #[.int .i64 M.window] W λe w'=>e= .returned (.pointer (some ⟨w.heap.size,0,none⟩))/\Blk w' w.heap.size 177 #[.int .i64 M.window]/\Below w.heap.size w w'/\w'.heap.size=w.heap.size+1 from by
  refine(window_any M.window W h0.1 h0.2).mono ?_;rintro e w' ⟨rfl,rfl⟩;rw[<-hz];exact⟨rfl,Blk.new W _ _,by rw[hz];exact hb.alloc (by omega) _,by simp⟩))
 have hU:=Lib.hid (λW (hb:Below w.heap.size w W) (hk:Blk W w.heap.size 177 #[.int .i64 M.window]) (hz:W.heap.size=w.heap.size+1)=>(show Calls Tryz.prog 35 #[.int .i64 M.others] W λe w'=>e= .returned (.pointer (some ⟨w.heap.size+1,0,none⟩))/\Blk w' w.heap.size 177 #[.int .i64 M.window]/\Blk w' (w.heap.size+1) 177 #[.int .i64 M.others]/\Below w.heap.size w w'/\w'.heap.size=w.heap.size+2 from by
  refine(window_any M.others W h1.1 h1.2).mono ?_;rintro e w' ⟨rfl,rfl⟩;rw[<-hz];exact⟨rfl,hk.alloc _,Blk.new W _ _,hb.alloc (by omega) _,by simp;omega⟩))
 have c9:w.cell? ⟨b,10,none⟩=some (.int .i64 M.window):=h.blk.cell 10;have c10:w.cell? ⟨b,11,none⟩=some (.int .i64 M.others):=h.blk.cell 11;have hV:=Lib.hid (show w.cell? ⟨b,10,none⟩=some (.int .i64 M.window)/\w.cell? ⟨b,11,none⟩=some (.int .i64 M.others)from⟨c9,c10⟩);have hl:=Lib.hid (show w.drew.cell? ⟨b,10,none⟩=some (.int .i64 M.window)/\w.drew.cell? ⟨b,11,none⟩=some (.int .i64 M.others)from⟨c9,c10⟩);have hW:=Lib.hid (λW (hb:Below w.heap.size w W) (hk:Blk W (w.heap.size+1) 177 #[.int .i64 M.others]) (hz:W.heap.size=w.heap.size+3)=>(show Calls Tryz.prog 95 #[.pointer (some ⟨L.ob,0,none⟩),.pointer (some ⟨w.heap.size+1,0,none⟩)] W λe w'=>e= .returned (.pointer (some ⟨w.heap.size+4,0,none⟩))/\Blk w' (w.heap.size+3) 75 #[.pointer (some ⟨L.ob,0,none⟩),.pointer (some ⟨w.heap.size+1,0,none⟩)]/\Blk w' (w.heap.size+4) 206 #[.slice (some ⟨w.heap.size+3,0,none⟩) 2 2]/\Below W.heap.size W w'/\w'.heap.size=w.heap.size+5 from by
  have hX:=h.p.outw.lt;refine(both_any L.ob (w.heap.size+1) _ _ W (by omega) (h.p.outw.below hb hX) hk).mono ?_;rintro e w' ⟨rfl,rfl⟩;have h8:(W.alloc (.cells #[.pointer (some ⟨L.ob,0,none⟩),.pointer (some ⟨w.heap.size+1,0,none⟩)] 75)).heap.size=w.heap.size+4:=by simp;omega
  have b1:=Blk.new W 75 #[.pointer (some ⟨L.ob,0,none⟩),.pointer (some ⟨w.heap.size+1,0,none⟩)];have b2:=Blk.new (W.alloc (.cells #[.pointer (some ⟨L.ob,0,none⟩),.pointer (some ⟨w.heap.size+1,0,none⟩)] 75)) 206 #[.slice (some ⟨W.heap.size,0,none⟩) 2 2];have hY:=((Below.refl W.heap.size W).alloc (Nat.le_refl _) (.cells #[.pointer (some ⟨L.ob,0,none⟩),.pointer (some ⟨w.heap.size+1,0,none⟩)] 75)).alloc (by simp) (.cells #[.slice (some ⟨W.heap.size,0,none⟩) 2 2] 206);rw[h8]at b2;rw[hz]at b1 b2;refine⟨by rw[hz],b1.alloc _,?_,hY,by simp;omega⟩;rw[hz];exact b2))
 have hd:=Lib.hid (λW (hb:Below w.heap.size w W)=>(show W.cell? ⟨b,9,none⟩=some (.pointer (some ⟨L.ob,0,none⟩))from(h.below hb).blk.cell 9));have hZ:=Lib.hid (λW (hb:Below w.heap.size w W)=>(show W.cell? ⟨b,15,none⟩=some (.map (some L.mb))/\SM Tryz.prog 3 W L.mb (M.strs.map (·.id)) (sptr L)from⟨(h.below hb).blk.cell 15,(h.below hb).p.map⟩));have Hh:=h.blk.lt;clear h h6 h0 h1 c9 c10;generalize hx:M.window=x at*
 generalize hy:M.others=y at*
 go_enter Tryz.func59,Tryz.ntmps59;go_upto_region 1 with fail;go_region_held3 (λW'=>W'.cell? ⟨b,10,none⟩=some (.int .i64 x)/\W'.cell? ⟨b,11,none⟩=some (.int .i64 y)) (first|with_reducible exact hV.out|with_reducible exact hl.out|with_reducible exact hD.out|with_reducible exact ho.out|with_reducible exact hE.out|with_reducible exact hq.out|with_reducible exact H0.out _) (first
  |(go_at_call 35
    with_reducible refine Calls.mono (hU.out _ ?_ ?_ ?_) ?_
    · first|exact hF.out|exact bdN hF.out 1
    · exact H1.out
    · exact H2.out
    rintro e w2 ⟨rfl,k2,k3,h5,hG⟩;have hH:=Lib.hid h5;have H3:=Lib.hid k2;have H4:=Lib.hid k3;have he:=Lib.hid hG;have hE:=Lib.hid (hc.out w2 h5);have hq:=Lib.hid (show w2.drew.cell? ⟨b,10,none⟩=some (.int .i64 x)/\w2.drew.cell? ⟨b,11,none⟩=some (.int .i64 y)from hE.out);have H0:=Lib.hid (λo=>hc.out (w2.alloc o) (h5.alloc h5.size o));clear k2 k3 h5 hG)
  |(go_at_call 35
    with_reducible refine Calls.mono (hT.out _ ?_ ?_) ?_
    · exact bdN (Below.refl _ _) 1
    · rfl
    rintro e w1 ⟨rfl,k1,hf,h8⟩;have hF:=Lib.hid hf;have H1:=Lib.hid k1;have H2:=Lib.hid h8;have hD:=Lib.hid (hc.out w1 hf);have ho:=Lib.hid (show w1.drew.cell? ⟨b,10,none⟩=some (.int .i64 x)/\w1.drew.cell? ⟨b,11,none⟩=some (.int .i64 y)from hD.out);clear k1 hf h8)
  |fail)
 all_goals
  rw[he.out];have h4:=Blk.new w2 122 #[.int .i64 (id:Nat),.int .i64 0,.int .i64 0,.pointer (some ⟨w.heap.size,0,none⟩),.pointer (some ⟨w.heap.size+1,0,none⟩),.pointer none,.slice none 0 0,.bool false,.slice none 0 0,.int .i64 0];rw[he.out]at h4;have h4:=Lib.hid h4;have h9:=Lib.hid (hH.out.alloc hH.out.size (.cells #[.int .i64 (id:Nat),.int .i64 0,.int .i64 0,.pointer (some ⟨w.heap.size,0,none⟩),.pointer (some ⟨w.heap.size+1,0,none⟩),.pointer none,.slice none 0 0,.bool false,.slice none 0 0,.int .i64 0] 122));have hI:=Lib.hid (H3.out.alloc (.cells #[.int .i64 (id:Nat),.int .i64 0,.int .i64 0,.pointer (some ⟨w.heap.size,0,none⟩),.pointer (some ⟨w.heap.size+1,0,none⟩),.pointer none,.slice none 0 0,.bool false,.slice none 0 0,.int .i64 0] 122));have hh:=Lib.hid (H4.out.alloc (.cells #[.int .i64 (id:Nat),.int .i64 0,.int .i64 0,.pointer (some ⟨w.heap.size,0,none⟩),.pointer (some ⟨w.heap.size+1,0,none⟩),.pointer none,.slice none 0 0,.bool false,.slice none 0 0,.int .i64 0] 122));have H5:=Lib.hid (show(w2.alloc (.cells #[.int .i64 (id:Nat),.int .i64 0,.int .i64 0,.pointer (some ⟨w.heap.size,0,none⟩),.pointer (some ⟨w.heap.size+1,0,none⟩),.pointer none,.slice none 0 0,.bool false,.slice none 0 0,.int .i64 0] 122)).heap.size=w.heap.size+3 by simp[he.out]);generalize w2.alloc (.cells #[.int .i64 (id:Nat),.int .i64 0,.int .i64 0,.pointer (some ⟨w.heap.size,0,none⟩),.pointer (some ⟨w.heap.size+1,0,none⟩),.pointer none,.slice none 0 0,.bool false,.slice none 0 0,.int .i64 0] 122)=W3 at*
  have hJ:=Lib.hid (show W3.cell? ⟨b,9,none⟩=some (.pointer (some ⟨L.ob,0,none⟩))/\W3.cell? ⟨w.heap.size+2,4,none⟩=some (.pointer (some ⟨w.heap.size+1,0,none⟩))from⟨hd.out W3 h9.out,h4.out.cell 4⟩);have ht:=Lib.hid (show W3.drew.cell? ⟨b,9,none⟩=some (.pointer (some ⟨L.ob,0,none⟩))/\W3.drew.cell? ⟨w.heap.size+2,4,none⟩=some (.pointer (some ⟨w.heap.size+1,0,none⟩))from hJ.out);go_upto_region 2 with fail;go_region_held3 (λW'=>W'.cell? ⟨b,9,none⟩=some (.pointer (some ⟨L.ob,0,none⟩))/\W'.cell? ⟨w.heap.size+2,4,none⟩=some (.pointer (some ⟨w.heap.size+1,0,none⟩))) (first|with_reducible exact hJ.out|with_reducible exact ht.out|with_reducible exact hK.out|with_reducible exact hu.out|with_reducible exact H7.out _) (first
   |(go_at_call 95
     with_reducible refine Calls.mono (hW.out _ ?_ ?_ ?_) ?_
     · exact bdN h9.out 1
     · exact hh.out
     · exact H5.out
     rintro e w4 ⟨rfl,r1,r2,hL,hM⟩;have h2:Below W3.heap.size W3 w4:=below_of_drew hL;have H8:=Lib.hid r1;have H9:=Lib.hid r2;have hi:=Lib.hid (h9.out.trans (h2.mono h9.out.size));have Ha:=Lib.hid hM;have hw:=Lib.hid (hI.out.below h2 hI.out.lt);have hA:=Lib.hid (hh.out.below h2 hh.out.lt);have h3:=Lib.hid (h4.out.below h2 h4.out.lt);have x5:w4.cell? ⟨w.heap.size+2,5,none⟩=some (.pointer none):=h3.out.cell 5;have f5:=h3.out.frozen 5;have hK:=Lib.hid (show w4.cell? ⟨b,9,none⟩=some (.pointer (some ⟨L.ob,0,none⟩))/\w4.cell? ⟨w.heap.size+2,4,none⟩=some (.pointer (some ⟨w.heap.size+1,0,none⟩))from⟨hd.out w4 hi.out,h3.out.cell 4⟩);have hu:=Lib.hid (show w4.drew.cell? ⟨b,9,none⟩=some (.pointer (some ⟨L.ob,0,none⟩))/\w4.drew.cell? ⟨w.heap.size+2,4,none⟩=some (.pointer (some ⟨w.heap.size+1,0,none⟩))from hK.out);have H7:=Lib.hid (λv=>(show(w4.setCell ⟨w.heap.size+2,5,none⟩ v).cell? ⟨b,9,none⟩=some (.pointer (some ⟨L.ob,0,none⟩))/\(w4.setCell ⟨w.heap.size+2,5,none⟩ v).cell? ⟨w.heap.size+2,4,none⟩=some (.pointer (some ⟨w.heap.size+1,0,none⟩))from
      ⟨hd.out _ (hi.out.setCell (p:=⟨w.heap.size+2,5,none⟩) (by simp) _),(h3.out.put 5 v).cell 4⟩))
     clear r1 r2 hL h2 hM)
   |fail)
 all_goals
  have hN:=Lib.hid (hi.out.setCell (p:=⟨w.heap.size+2,5,none⟩) (by simp) (.pointer (some ⟨w.heap.size+4,0,none⟩)));have Hb:=Lib.hid (show(w4.setCell ⟨w.heap.size+2,5,none⟩ (.pointer (some ⟨w.heap.size+4,0,none⟩))).heap.size=w.heap.size+5 by simp[World.setCell,Ha.out]);have N0:=Lib.hid (h3.out.put 5 (.pointer (some ⟨w.heap.size+4,0,none⟩)));have N1:=Lib.hid (hw.out.far (p:=⟨w.heap.size+2,5,none⟩) (by simp) (.pointer (some ⟨w.heap.size+4,0,none⟩)));have N2:=Lib.hid (hA.out.far (p:=⟨w.heap.size+2,5,none⟩) (by simp) (.pointer (some ⟨w.heap.size+4,0,none⟩)));have N3:=Lib.hid (H9.out.far (p:=⟨w.heap.size+2,5,none⟩) (by simp) (.pointer (some ⟨w.heap.size+4,0,none⟩)));have N4:=Lib.hid (H8.out.far (p:=⟨w.heap.size+2,5,none⟩) (by simp) (.pointer (some ⟨w.heap.size+4,0,none⟩)));generalize w4.setCell ⟨w.heap.size+2,5,none⟩ (.pointer (some ⟨w.heap.size+4,0,none⟩))=W5 at*
  obtain⟨c15,hO⟩:=hZ.out W5 hN.out;obtain⟨w6,Hg,hP,hQ,hR⟩:=hO.put Tryz.underlying74 Tryz.underlying3 (by rw[List.length_map];simp only[maxLen];omega) (k:=id) (by simp[Lit.wf,IntKind.min,IntKind.max,IntKind.bits,IntKind.signed];omega) (by
   intro hm;obtain⟨s,hs,e⟩:=List.mem_map.1 hm;exact h7.out s hs e) (.pointer (some ⟨w.heap.size+2,0,none⟩))
  have Hc:=Lib.hid hP;have He:=Lib.hid hQ;have hS:=Lib.hid hR;clear hO hP hQ hR x5 f5;go_wp2;go_ret;have hC:=HC.out.opens id h7.out hN.out Hb.out (w2:=w6) N0.out (hx▸N1.out) (hy▸N2.out) N3.out N4.out Hc.out He.out hS.out;obtain⟨ow',L',r1,r2,r3,r4,r5,r6⟩:=hC;rw[hx,hy]at r1;exact⟨rfl,ow',L',r1,r2,r3,λj hj=>r4 j (by rw[<-hS.out];exact hj),r5,r6⟩
end Go.Proofs.YtkpppjhbmnfmkaaGreatDoor
end

section
set_option maxHeartbeats 1000000
namespace Go.Proofs.YtkpppjhbmnfmkaaGreatDoor
open Go.RowKit Go.Own Go.Own.Im Go.Own.Cx Go.Own.Fr
theorem inj_of_nodup:∀{l:List Sv},(l.map (·.id)).Nodup->∀{x y:Sv},x∈l->y∈l->x.id=y.id->x=y
 |[],_,_,_,h,_,_=>by cases h
 |a::l,h,x,y,hx,hy,e=>by
  rw[List.map_cons,List.nodup_cons]at h;have key:∀z:Sv,z∈l->z.id≠a.id:=λz hz ez=>h.1 (ez▸List.mem_map.2 ⟨z,hz,rfl⟩);rcases List.mem_cons.1 hx with h1|h1
  · rcases List.mem_cons.1 hy with h0|h0
    · rw[h1,h0]
    · exact absurd (by rw[<-e,h1]) (key y h0)
  · rcases List.mem_cons.1 hy with h0|h0
    · exact absurd (by rw[e,h0]) (key x h1)
    · exact inj_of_nodup h.2 h1 h0 e
def updS (l:List Sv) (s:Sv):List Sv:=l.map λx=>if x.id=s.id then s else x
theorem updS_ids (l:List Sv) (s:Sv):(updS l s).map (·.id)=l.map (·.id):=by
 unfold updS;rw[List.map_map];apply List.map_congr_left;intro x _;simp only[Function.comp]
 split
 · rename_i h;exact h.symm
 · rfl
theorem updS_last {l:List Sv} {s s':Sv} (h:∀x∈l,x.id≠s'.id) (e:s.id=s'.id):updS (l++[s]) s'=l++[s']:=by
 unfold updS;rw[List.map_append]
 congr 1
 · have:(l.map λx=>if x.id=s'.id then s' else x)=l.map id:=List.map_congr_left λx hx=>by simp[h x hx]
   rw[this,List.map_id]
 · simp[e]
theorem CN.strcell {w:World} {ow:Nat->Tg} {b:Nat} {M:Cv} {L:Lay} (h:CN w ow b M L) {s s':Sv} (hs:s∈M.strs) (hid:s'.id=s.id) (i:Nat) (v:Value) (hc:(stC s (L.s s.id)).setIfInBounds i v=stC s' (L.s s.id)) (h1:s'.inw=s.inw) (h2:s'.outw=s.outw) (h3:s'.waits=s.waits):
 CN (w.setCell ⟨(L.s s.id).sb,i,none⟩ v) ow b {M with strs:=updS M.strs s'} L/\Fr w ow (w.setCell ⟨(L.s s.id).sb,i,none⟩ v) ow:=by
 have hS:=h.p.strs s hs;have hsz:(w.setCell ⟨(L.s s.id).sb,i,none⟩ v).heap.size=w.heap.size:=by simp[World.setCell]
 have k:Kp (λx=>x= .st s.id 0) w ow (w.setCell ⟨(L.s s.id).sb,i,none⟩ v) ow:=
  ⟨by omega,λg _ ht _=>⟨Below.heap_setCell w _ _ g (λe=>ht (by rw[e];exact hS.tb)),rfl⟩⟩
 have h0:=h.blkK k (by simp);have h4:∀x∈updS M.strs s',SN (w.setCell ⟨(L.s s.id).sb,i,none⟩ v) ow L.ob (L.s x.id) x:=by
  intro x hx;obtain⟨y,hy,rfl⟩:=List.mem_map.1 hx;by_cases e:y.id=s'.id
  · rw[if_pos e,hid]
    refine⟨hc▸hS.blk.put i v,hid.symm▸hS.tb,?_,?_,?_,?_,?_,?_,?_,?_,?_⟩
    · rw[h1];exact(k.at_ (.st s.id 1) (by simp) (by simp) _ hS.ti hS.inw.lt).1.trans hS.inw
    · rw[hid];exact hS.ti
    · rw[h2];exact(k.at_ (.st s.id 2) (by simp) (by simp) _ hS.tu hS.outw.lt).1.trans hS.outw
    · rw[hid];exact hS.tu
    · exact(k.at_ (.st s.id 3) (by simp) (by simp) _ hS.tp hS.pair.lt).1.trans hS.pair
    · rw[hid];exact hS.tp
    · exact(k.at_ (.st s.id 4) (by simp) (by simp) _ hS.tr hS.row.lt).1.trans hS.row
    · rw[hid];exact hS.tr
    · rw[h3,hid]
      exact hS.waits.turn (λg h5 ho=>k.at_ (.st s.id 5) (by simp) (by simp) g ho h5) k.size
  · rw[if_neg e]
    exact h.p.strK k y hy (by intro j;simp;intro e2;exact absurd (e2.trans hid.symm) e)
 refine⟨⟨h0.1,h0.2,⟨h.p.fedK k (by simp),h.p.outK k (by simp),h.p.evK k (by simp) (by simp),(h.p.inwK k (by simp)).1,(h.p.inwK k (by simp)).2,(h.p.outwK k (by simp)).1,(h.p.outwK k (by simp)).2,?_,(h.p.mapK k (by simp)).2,h4,h.p.lstK k (by simp) (by simp),h.p.encK k (by simp),h.p.decK k (by simp)⟩,λg hg=>h.new g (by omega)⟩,?_⟩
 · show SM _ _ _ _ ((updS M.strs s').map (·.id)) _
   rw[updS_ids];exact(h.p.mapK k (by simp)).1
 · exact Fr.grown (grown_setCell (World.grownBy.refl w (some (L.s s.id).sb)) i v) λg e=>by injection e with e;subst e;rw[hS.tb];simp
theorem over_no (cv:Value) (w:World) (ow:Nat->Tg) (co:Nat) (l:SLay) (s:Sv) (h:SN w ow co l s) (hn:s.own≠3\/s.other≠3):
 Calls Tryz.prog 97 #[cv,.pointer (some ⟨l.sb,0,none⟩)] w λe w'=>e= .returned (.tuple #[])/\w'=w:=by
 have d1:w.cell? ⟨l.sb,1,none⟩=some (.int .i64 (s.own:Nat)):=h.blk.cell 1;have d2:w.cell? ⟨l.sb,2,none⟩=some (.int .i64 (s.other:Nat)):=h.blk.cell 2;clear h;generalize s.own=x at*
 generalize s.other=y at*
 generalize l.sb=sb at*
 by_cases hx:x=3
 · have hy:¬(y:Int)=3:=by omega
   have h1:((y:Int)==3)=false:=by simpa using hy
   subst hx;clear hn;go_enter Tryz.func97,Tryz.ntmps97;go_wp2;go_end0;exact⟨rfl,rfl⟩
 · have h0:¬(x:Int)=3:=by omega
   have h2:((x:Int)==3)=false:=by simpa using h0
   clear hn;go_enter Tryz.func97,Tryz.ntmps97;go_wp2;go_end0;exact⟨rfl,rfl⟩
def endS (s:Sv) (fin:Bool):Sv:=if fin then{s with other:=3}else s
theorem ends_any (w:World) (ow:Nat->Tg) (b:Nat) (M:Cv) (L:Lay) (s:Sv) (fin:Bool) (h:CN w ow b M L) (hs:s∈M.strs) (ho:s.own≠3) (hu:(M.strs.map (·.id)).Nodup):
 Calls Tryz.prog 193 #[.pointer (some ⟨b,0,none⟩),.pointer (some ⟨(L.s s.id).sb,0,none⟩),.bool fin] w (CPost w ow b {M with strs:=updS M.strs (endS s fin)} (.tuple #[])):=by
 cases fin with
 |false=>
  have e:updS M.strs (endS s false)=M.strs:=by
   unfold updS endS;have:(M.strs.map λx=>if x.id=(if false=true then{s with other:=3}else s).id then(if false=true then{s with other:=3}else s)else x)=M.strs.map id:=List.map_congr_left λx hx=>by
    simp only[Bool.false_eq_true,if_false,id]
    split
    · rename_i e
      exact(inj_of_nodup hu hx hs e).symm
    · rfl
   rw[this,List.map_id]
  rw[e];go_enter Tryz.func193,Tryz.ntmps193;go_wp2;go_end0;exact⟨ow,L,rfl,h,Fr.refl w ow⟩
 |true=>
  have hS:=h.p.strs s hs;have hk:=h.strcell (s':={s with other:=3}) hs rfl 2 (.int .i64 3) rfl rfl rfl rfl;have HK:=Lib.hid hk;have d2:w.cell? ⟨(L.s s.id).sb,2,none⟩=some (.int .i64 (s.other:Nat)):=hS.blk.cell 2;have f2:=hS.blk.frozen 2;have h0:({s with other:=3}:Sv)∈updS M.strs {s with other:=3}:=List.mem_map.2 ⟨s,hs,by simp⟩;have HO:=Lib.hid (λcv=>over_no cv _ ow L.ob (L.s s.id) {s with other:=3} (hk.1.p.strs _ h0) (.inl ho));clear h hk hS h0;go_enter Tryz.func193,Tryz.ntmps193;go_wp2_with (first
   |(go_at_call 97
     with_reducible refine Calls.mono (HO.out _) ?_
     rintro e w1 ⟨rfl,hw⟩;subst w1)
   |fail)
  go_end0;exact⟨ow,L,rfl,HK.out.1,HK.out.2⟩
end Go.Proofs.YtkpppjhbmnfmkaaGreatDoor
end
