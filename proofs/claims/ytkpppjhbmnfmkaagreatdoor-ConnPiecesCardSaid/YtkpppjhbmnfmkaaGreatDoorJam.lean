/-
  
  
  
-/
import Derived.Test.YtkpppjhbmnfmkaaGreatDoorJal
import Derived.Recover
import Derived.Defers
import Derived.Test.YtkpppjhbmnfmkaaGreatDoorJaj
set_option linter.unusedSimpArgs false
set_option linter.unusedVariables false
section
set_option maxHeartbeats 8000000
set_option maxRecDepth 100000
namespace Go.Proofs.YtkpppjhbmnfmkaaGreatDoor
open Lib (hid)
open Go.RowKit Go.Own Go.Own.Im Go.Own.Cx Go.Own.Fr
def fltE (c s:Nat):List PanicEntry:=[{v:=.iface 143 (.agg #[.int .i64 (c:Nat),.int .i64 (s:Nat)]),recovered:=false}]
theorem give_any (c s:Nat) (w:World):Calls Tryz.prog 70 #[.int .i64 (c:Nat),.int .i64 (s:Nat)] w λe w'=>e= .panicked (fltE c s)/\w'=w:=by
 go_enter Tryz.func70,Tryz.ntmps70;go_wp2;exact⟨rfl,rfl,rfl⟩
def knownB (M:Cv) (id:Nat):Bool:=decide (id % 2=1/\id<=M.last)
theorem idle_bad (w:World) (ow:Nat->Tg) (b:Nat) (M:Cv) (L:Lay) (id:Nat) (h:CN w ow b M L) (hk:knownB M id=false):
 Calls Tryz.prog 154 #[.pointer (some ⟨b,0,none⟩),.int .i64 (id:Nat)] w λe w'=>e= .panicked (fltE 1 0)/\w'=w:=by
 have HK:=known_any w ow b M L id h;rw[show decide (id % 2=1/\id<=M.last)=false from hk]at HK;have HK:=hid HK;clear h hk;go_enter Tryz.func154,Tryz.ntmps154;go_wp2_with fail;with_reducible refine HK.out.mono ?_
 rintro e w1 ⟨rfl,hw⟩;subst w1;go_wp2_with fail;refine(give_any 1 0 w).mono ?_;rintro e w1 ⟨rfl,hw⟩;subst w1;go_wp2;exact⟨rfl,rfl,rfl⟩
theorem idle_ok (w:World) (ow:Nat->Tg) (b:Nat) (M:Cv) (L:Lay) (id:Nat) (h:CN w ow b M L) (hk:knownB M id=true) (hw:(Lit.int .i64 (id:Int)).wf=true):
 Calls Tryz.prog 154 #[.pointer (some ⟨b,0,none⟩),.int .i64 (id:Nat)] w λe w'=>e= .returned (atI (M.strs.map (·.id)) (sptr L) (.pointer none) (id:Int))/\w'=w:=by
 have HK:=known_any w ow b M L id h;rw[show decide (id % 2=1/\id<=M.last)=true from hk]at HK;have HK:=hid HK;have h0:=look_str h (id:Int) hw;have c15:w.cell? ⟨b,15,none⟩=some (.map (some L.mb)):=h.blk.cell 15;obtain⟨v,hv⟩:∃v,atI (M.strs.map (·.id)) (sptr L) (.pointer none) (id:Int)=v:=⟨_,rfl⟩;rw[hv]at h0 ⊢;clear h hk hv;go_enter Tryz.func154,Tryz.ntmps154;go_wp2_with fail;with_reducible refine HK.out.mono ?_
 rintro e w1 ⟨rfl,hw⟩;subst w1;go_wp2;go_ret;exact⟨rfl,rfl⟩
def wkF (g b:Nat) (k:Int):Option Value:=
 if k=8 then some (.func (.func 158) #[] #[.pointer (some ⟨g,0,none⟩)])else
 if k=7 then some (.func (.func 157) #[] #[.pointer (some ⟨g,0,none⟩)])else
 if k=6 then some (.func (.func 156) #[] #[.pointer (some ⟨g,0,none⟩)])else
 if k=4 then some (.func (.func 155) #[.pointer (some ⟨b,0,none⟩)] #[])else
 if k=3 then some (.func (.func 153) #[] #[.pointer (some ⟨g,0,none⟩)])else
 if k=5 then some (.func (.func 152) #[] #[])else
 if k=9 then some (.func (.func 151) #[] #[.pointer (some ⟨g,0,none⟩)])else
 if k=1 then some (.func (.func 149) #[] #[.pointer (some ⟨g,0,none⟩)])else
 if k=0 then some (.func (.func 148) #[.pointer (some ⟨b,0,none⟩)] #[])else
 none
theorem works_any (b:Nat) (w:World):Calls Tryz.prog 115 #[.pointer (some ⟨b,0,none⟩)] w λe w'=>e= .returned (.map (some (w.heap.size+1)))/\Blk w' w.heap.size 26 #[.pointer (some ⟨b,0,none⟩)]/\HM Tryz.prog 3 w' (w.heap.size+1) 9 (wkF w.heap.size b)/\Below w.heap.size w w':=by
 have hs:∀(fn:Fn) (first cap:Array Value) (w:World),(Instr.makeFunc fn first cap).run Tryz.prog w= .ok (.func fn first cap) w:=λ_ _ _ _=>rfl;have ht:=λW=>run_mkMap (P:=Tryz.prog) 201 W;have HX:=hid (Blk.new w 26 #[.pointer (some ⟨b,0,none⟩)]);have hn:=hid ((Below.refl w.heap.size w).alloc (Nat.le_refl _) (.cells #[.pointer (some ⟨b,0,none⟩)] 26));have HZ:=hid (show(w.alloc (.cells #[.pointer (some ⟨b,0,none⟩)] 26)).heap.size=w.heap.size+1 by simp);go_enter Tryz.func115,Tryz.ntmps115;go_upto_region 1 with fail;generalize w.alloc (.cells #[.pointer (some ⟨b,0,none⟩)] 26)=W0 at*
 have h1:=hid (HM.made Tryz.prog 3 W0);have h2:=hid ((Below.refl W0.heap.size W0).alloc (Nat.le_refl _) (.map #[] 0));have c0:W0.cell? ⟨w.heap.size,0,none⟩=some (.pointer (some ⟨b,0,none⟩)):=HX.out.cell 0;have hq:=HX.out.lt;go_wp2_with (first
  |(with_reducible refine wpList_put _ rfl (.tmp 3) (.const (.int .i64 0)) (.tmp 5) 201 (.inl rfl) Tryz.underlying201 Tryz.underlying3 W0.heap.size 0 _ rfl h1.out ?_ 0 ?_ rfl (.func (.func 148) #[.pointer (some ⟨b,0,none⟩)] #[]) rfl ?_
    · simp only[maxLen];omega
    · decide
    intro w1 hm hg;have h3:=hid hm;have h0:=h2.out.grown hg h2.out.size (λj e=>by injection e with e;omega);have h4:=hid h0;clear c0;have c0:w1.cell? ⟨w.heap.size,0,none⟩=some (.pointer (some ⟨b,0,none⟩)):=(HX.out.below h0 HX.out.lt).cell 0;clear hm hg h1 h0)
  |(with_reducible refine wpList_put _ rfl (.tmp 3) (.const (.int .i64 1)) (.tmp 6) 201 (.inl rfl) Tryz.underlying201 Tryz.underlying3 W0.heap.size 1 _ rfl h3.out ?_ 1 ?_ rfl (.func (.func 149) #[] #[.pointer (some ⟨w.heap.size,0,none⟩)]) rfl ?_
    · simp only[maxLen];omega
    · decide
    intro w2 hm hg;have h5:=hid hm;have h0:=h4.out.grown hg h4.out.size (λj e=>by injection e with e;omega);have h6:=hid h0;clear c0;have c0:w2.cell? ⟨w.heap.size,0,none⟩=some (.pointer (some ⟨b,0,none⟩)):=(HX.out.below h0 HX.out.lt).cell 0;clear hm hg h3 h0)
  |(with_reducible refine wpList_put _ rfl (.tmp 3) (.const (.int .i64 9)) (.tmp 7) 201 (.inl rfl) Tryz.underlying201 Tryz.underlying3 W0.heap.size 2 _ rfl h5.out ?_ 9 ?_ rfl (.func (.func 151) #[] #[.pointer (some ⟨w.heap.size,0,none⟩)]) rfl ?_
    · simp only[maxLen];omega
    · decide
    intro w3 hm hg;have h7:=hid hm;have h0:=h6.out.grown hg h6.out.size (λj e=>by injection e with e;omega);have h8:=hid h0;clear c0;have c0:w3.cell? ⟨w.heap.size,0,none⟩=some (.pointer (some ⟨b,0,none⟩)):=(HX.out.below h0 HX.out.lt).cell 0;clear hm hg h5 h0)
  |(with_reducible refine wpList_put _ rfl (.tmp 3) (.const (.int .i64 5)) (.func 152) 201 (.inl rfl) Tryz.underlying201 Tryz.underlying3 W0.heap.size 3 _ rfl h7.out ?_ 5 ?_ rfl (.func (.func 152) #[] #[]) rfl ?_
    · simp only[maxLen];omega
    · decide
    intro w4 hm hg;have h9:=hid hm;have h0:=h8.out.grown hg h8.out.size (λj e=>by injection e with e;omega);have hb:=hid h0;clear c0;have c0:w4.cell? ⟨w.heap.size,0,none⟩=some (.pointer (some ⟨b,0,none⟩)):=(HX.out.below h0 HX.out.lt).cell 0;clear hm hg h7 h0)
  |(with_reducible refine wpList_put _ rfl (.tmp 3) (.const (.int .i64 3)) (.tmp 8) 201 (.inl rfl) Tryz.underlying201 Tryz.underlying3 W0.heap.size 4 _ rfl h9.out ?_ 3 ?_ rfl (.func (.func 153) #[] #[.pointer (some ⟨w.heap.size,0,none⟩)]) rfl ?_
    · simp only[maxLen];omega
    · decide
    intro w5 hm hg;have hc:=hid hm;have h0:=hb.out.grown hg hb.out.size (λj e=>by injection e with e;omega);have hd:=hid h0;clear c0;have c0:w5.cell? ⟨w.heap.size,0,none⟩=some (.pointer (some ⟨b,0,none⟩)):=(HX.out.below h0 HX.out.lt).cell 0;clear hm hg h9 h0)
  |(with_reducible refine wpList_put _ rfl (.tmp 3) (.const (.int .i64 4)) (.tmp 10) 201 (.inl rfl) Tryz.underlying201 Tryz.underlying3 W0.heap.size 5 _ rfl hc.out ?_ 4 ?_ rfl (.func (.func 155) #[.pointer (some ⟨b,0,none⟩)] #[]) rfl ?_
    · simp only[maxLen];omega
    · decide
    intro w6 hm hg;have he:=hid hm;have h0:=hd.out.grown hg hd.out.size (λj e=>by injection e with e;omega);have hf:=hid h0;clear c0;have c0:w6.cell? ⟨w.heap.size,0,none⟩=some (.pointer (some ⟨b,0,none⟩)):=(HX.out.below h0 HX.out.lt).cell 0;clear hm hg hc h0)
  |(with_reducible refine wpList_put _ rfl (.tmp 3) (.const (.int .i64 6)) (.tmp 11) 201 (.inl rfl) Tryz.underlying201 Tryz.underlying3 W0.heap.size 6 _ rfl he.out ?_ 6 ?_ rfl (.func (.func 156) #[] #[.pointer (some ⟨w.heap.size,0,none⟩)]) rfl ?_
    · simp only[maxLen];omega
    · decide
    intro w7 hm hg;have hh:=hid hm;have h0:=hf.out.grown hg hf.out.size (λj e=>by injection e with e;omega);have hi:=hid h0;clear c0;have c0:w7.cell? ⟨w.heap.size,0,none⟩=some (.pointer (some ⟨b,0,none⟩)):=(HX.out.below h0 HX.out.lt).cell 0;clear hm hg he h0)
  |(with_reducible refine wpList_put _ rfl (.tmp 3) (.const (.int .i64 7)) (.tmp 12) 201 (.inl rfl) Tryz.underlying201 Tryz.underlying3 W0.heap.size 7 _ rfl hh.out ?_ 7 ?_ rfl (.func (.func 157) #[] #[.pointer (some ⟨w.heap.size,0,none⟩)]) rfl ?_
    · simp only[maxLen];omega
    · decide
    intro w8 hm hg;have hj:=hid hm;have h0:=hi.out.grown hg hi.out.size (λj e=>by injection e with e;omega);have hk:=hid h0;clear c0;have c0:w8.cell? ⟨w.heap.size,0,none⟩=some (.pointer (some ⟨b,0,none⟩)):=(HX.out.below h0 HX.out.lt).cell 0;clear hm hg hh h0)
  |(with_reducible refine wpList_put _ rfl (.tmp 3) (.const (.int .i64 8)) (.tmp 13) 201 (.inl rfl) Tryz.underlying201 Tryz.underlying3 W0.heap.size 8 _ rfl hj.out ?_ 8 ?_ rfl (.func (.func 158) #[] #[.pointer (some ⟨w.heap.size,0,none⟩)]) rfl ?_
    · simp only[maxLen];omega
    · decide
    intro w9 hm hg;have ho:=hid hm;have h0:=hk.out.grown hg hk.out.size (λj e=>by injection e with e;omega);have hl:=hid h0;clear c0;have c0:w9.cell? ⟨w.heap.size,0,none⟩=some (.pointer (some ⟨b,0,none⟩)):=(HX.out.below h0 HX.out.lt).cell 0;clear hm hg hj h0)
  |fail)
 go_ret;have e1:=HZ.out;refine⟨by rw[e1];rfl,HX.out.below hl.out HX.out.lt,?_,hn.out.trans (hl.out.mono (by omega))⟩;have h:=ho.out;rw[e1]at h;exact h.same λk=>by unfold wkF;rfl
end Go.Proofs.YtkpppjhbmnfmkaaGreatDoor
end

section
set_option maxHeartbeats 2000000
set_option maxRecDepth 100000
namespace Go.Proofs.YtkpppjhbmnfmkaaGreatDoor
open Lib (hid)
open Go.RowKit Go.Own Go.Own.Im Go.Own.Cx Go.Own.Fr
theorem data_idle (w:World) (ow:Nat->Tg) (b:Nat) (M:Cv) (L:Lay) (i:Inf) (sv dv sz:Value) (h:CN w ow b M L) (hk:knownB M i.stream=false):
 Calls Tryz.prog 148 #[.pointer (some ⟨b,0,none⟩),.agg (infC i sv dv),sz] w λe w'=>e= .panicked (fltE 1 0)/\Below w.heap.size w w':=by
 have HX:=hid (Blk.new w 91 (infC i sv dv));have h0:=hid ((Below.refl w.heap.size w).alloc (Nat.le_refl _) (.cells (infC i sv dv) 91));have HI:=hid (idle_bad _ ow b M L i.stream (h.below h0.out) hk);clear h hk;go_enter Tryz.func148,Tryz.ntmps148;go_upto_region 1 with fail;generalize w.alloc (.cells (infC i sv dv) 91)=W0 at*
 have x2:W0.cell? ⟨w.heap.size,2,none⟩=some (.int .i64 (i.stream:Nat)):=HX.out.cell 2;go_wp2_with fail;with_reducible refine HI.out.mono ?_
 rintro e w1 ⟨rfl,hw⟩;subst w1;go_wp2;exact⟨rfl,rfl,h0.out⟩
end Go.Proofs.YtkpppjhbmnfmkaaGreatDoor
end

section
namespace Go.Proofs.YtkpppjhbmnfmkaaGreatDoor
open Go.RowKit Go.Own Go.Own.Im Go.Own.Cx Go.Own.Fr
end Go.Proofs.YtkpppjhbmnfmkaaGreatDoor
end
