/-
  
  
-/
import Derived.Test.YtkpppjhbmnfmkaaGreatDoorJan
import Derived.Test.YtkpppjhbmnfmkaaGreatDoorJaj
import Derived.BigQuiet
import Derived.Laws.IdiomRangeMap
set_option linter.unusedSimpArgs false
set_option linter.unusedVariables false
section
set_option maxHeartbeats 4000000
set_option maxRecDepth 100000
namespace Go.Proofs.YtkpppjhbmnfmkaaGreatDoor
open Lib (hid)
open Go.RowKit Go.Own Go.Own.Im Go.Own.Cx Go.Own.Fr
theorem infC_ack:infC {typ:=4,ack:=true} (.slice none 0 0) (.slice none 0 0)= #[.int .i64 4,.int .i64 0,.int .i64 0,.bool false,.bool false,.bool true,.bool false,.bool false,.bool false,.int .i64 0,.int .i64 0,.int .i64 0,.int .i64 0,.int .i64 0,.int .i64 0,.int .i64 0,.slice none 0 0,.slice none 0 0]:=rfl
theorem flg_ack:flg {typ:=4,ack:=true}=1:=by decide
theorem pay_ack:pay {typ:=4,ack:=true}=[]:=rfl
theorem evC_plain (k s c l:Nat) (f:Bool):evC {kind:=k,stream:=s,code:=c,last:=l,fin:=f}= #[.int .i64 (k:Nat),.int .i64 (s:Nat),.int .i64 (c:Nat),.int .i64 (l:Nat),.bool f,.slice none 0 0,.slice none 0 0]:=rfl
theorem evOk_plain (w:World) (ow:Nat->Tg) (k s c l:Nat) (f:Bool):EvOk w ow {kind:=k,stream:=s,code:=c,last:=l,fin:=f}:=
 ⟨⟨Nat.le_refl _,Cm.RS.nil,λh=>absurd h (Nat.lt_irrefl _)⟩,⟨Nat.le_refl _,rd_nil0 w _,λh=>absurd h (Nat.lt_irrefl _)⟩⟩
theorem CPost.trans {w w1 w2:World} {ow ow1:Nat->Tg} {b:Nat} {M2:Cv} {v2:Value} {e2:Ending} (h:Fr w ow w1 ow1) (k:CPost w1 ow1 b M2 v2 e2 w2):CPost w ow b M2 v2 e2 w2:=by
 obtain⟨ow2,L2,e,hc,hf⟩:=k;exact⟨ow2,L2,e,hc,h.trans hf⟩
theorem settings_none (w:World) (ow:Nat->Tg) (b:Nat) (M:Cv) (L:Lay) (i:Inf) (S:Option Addr) (d:Nat) (dv sz:Value) (h:CN w ow b M L) (ha:i.ack=false) (ho:M.out.length<=1000000000) (hn:M.evs.length<=900000):
 Calls Tryz.prog 155 #[.pointer (some ⟨b,0,none⟩),.agg (infC i (.slice S 0 d) dv),sz] w (CPost w ow b {M with out:=M.out++frameB 4 1 0 [],evs:=M.evs++[{kind:=7}]} (.tuple #[])):=by
 have HX:=hid (Blk.new w 91 (infC i (.slice S 0 d) dv));have h0:=hid ((Below.refl w.heap.size w).alloc (Nat.le_refl _) (.cells (infC i (.slice S 0 d) dv) 91));have HC:=hid h;have HN:=hid hn;have HO:=hid ho;have HA:=hid ha;clear h hn ho ha;go_enter Tryz.func155,Tryz.ntmps155;go_upto_region 1 with fail;generalize w.alloc (.cells (infC i (.slice S 0 d) dv) 91)=W0 at*
 have h3:=hid (HC.out.below h0.out);have c5:W0.cell? ⟨w.heap.size,5,none⟩=some (.bool i.ack):=HX.out.cell 5;rw[HA.out]at c5;have c16:W0.cell? ⟨w.heap.size,16,none⟩=some (.slice S 0 d):=HX.out.cell 16;have HP:=put_any W0 ow b M L _ _ h3.out rfl (bld_ack W0) HO.out;rw[infC_ack,flg_ack,pay_ack]at HP;have HP:=hid HP;go_wp2_with fail;go_loop [60] (λt=>t= .int .i64 0) (λ_=>0)
 case atStart=>rfl
 case round=>
 obtain rfl:=hrel;go_wp2_with (first
  |(go_at_call 39
    refine HP.out.mono ?_;rintro e w1 ⟨ow1,L1,rfl,h1,h2⟩;have h4:=hid ((Fr.below h0.out ow).trans h2);have HT:=tell_any w1 ow1 b _ L1 {kind:=7} h1 (evOk_plain _ _ _ _ _ _ _) HN.out;rw[evC_plain]at HT;have HT:=hid HT;clear h1 h2)
  |(go_at_call 109
    refine HT.out.mono ?_;intro e w2 hp;obtain rfl:=hp.ret;have HQ:=hid hp;clear hp)
  |fail)
 go_end0;exact HQ.out.trans h4.out
end Go.Proofs.YtkpppjhbmnfmkaaGreatDoor
end

section
namespace Go.Proofs.YtkpppjhbmnfmkaaGreatDoor
open Go.RowKit Go.Own Go.Own.Im Go.Own.Cx Go.Own.Fr
theorem CN.othersAre {w:World} {ow:Nat->Tg} {b:Nat} {M:Cv} {L:Lay} (h:CN w ow b M L) (v:Int):CN (w.setCell ⟨b,11,none⟩ (.int .i64 v)) ow b {M with others:=v} L/\Fr w ow (w.setCell ⟨b,11,none⟩ (.int .i64 v)) ow:=h.cell 11 _ rfl h.p
theorem CN.noMap {w:World} {ow:Nat->Tg} {b:Nat} {M:Cv} {L:Lay} (h:CN w ow b M L) (hs:M.strs=[]):∃clock,w.heap[L.mb]?=some (.map #[] clock):=by
 have hm:=h.p.map;rw[hs]at hm;obtain⟨D,h1,_⟩:=hm;obtain⟨es,clock,hb,F,hsz,rfl⟩:=h1;have h0:es.size=0:=by
  have:=hsz
  simpa using this
 rw[Array.eq_empty_of_size_eq_zero h0]at hb;exact⟨clock,hb⟩
theorem next_none (w:World) (ty:TypeId) (bm clock:Nat) (hb:w.heap[bm]?=some (.map #[] clock)):
 (Instr.next (.pointer (some ⟨w.heap.size,0,none⟩)) false ty).run Tryz.prog (w.alloc (.mapIter (some bm) clock #[] clock))= .ok (.tuple #[.bool false]) (w.alloc (.mapIter (some bm) clock #[] clock)):=by
 rcases run_next_map (P:=Tryz.prog) w ty bm clock clock #[] #[] clock hb (by simp) (Nat.le_refl _)with h|⟨e,he,_⟩
 · exact h.2
 · simp[leftOf]at he
end Go.Proofs.YtkpppjhbmnfmkaaGreatDoor
end
