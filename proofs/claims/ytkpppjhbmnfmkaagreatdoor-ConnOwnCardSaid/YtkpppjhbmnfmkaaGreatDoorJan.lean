/-
  
  
-/
import Derived.Test.YtkpppjhbmnfmkaaGreatDoorJam
import Derived.Recover
import Derived.Defers
import Derived.Test.YtkpppjhbmnfmkaaGreatDoorJak
set_option linter.unusedSimpArgs false
set_option linter.unusedVariables false
section
set_option maxHeartbeats 8000000
set_option maxRecDepth 100000
namespace Go.Proofs.YtkpppjhbmnfmkaaGreatDoor
open Lib (hid)
open Go.RowKit Go.Own Go.Own.Im Go.Own.Cx Go.Own.Fr
def fltE (c s:Nat):List PanicEntry:=[{v:=.iface 143 (.agg #[.int .i64 (c:Nat),.int .i64 (s:Nat)]),recovered:=false}]
theorem give_any (c s:Nat) (w:World):Calls Tryz.prog 70 #[.int .i64 (c:Nat),.int .i64 (s:Nat)] w λe w'=>e= .panicked (fltE c s)/\w'=w:=by
 go_enter Tryz.func70,Tryz.ntmps70;go_wp2;exact⟨rfl,rfl,rfl⟩
def knownB (M:Cv) (id:Nat):Bool:=decide (id % 2=1/\id<=M.last)
theorem idle_bad (w:World) (ow:Nat->Tg) (b:Nat) (M:Cv) (L:Lay) (id:Nat) (h:CN w ow b M L) (hk:knownB M id=false):
 Calls Tryz.prog 154 #[.pointer (some ⟨b,0,none⟩),.int .i64 (id:Nat)] w λe w'=>e= .panicked (fltE 1 0)/\w'=w:=by
 have HK:=known_any w ow b M L id h;rw[show decide (id % 2=1/\id<=M.last)=false from hk]at HK;have HK:=hid HK;clear h hk;go_enter Tryz.func154,Tryz.ntmps154;go_wp2_with fail;with_reducible refine HK.out.mono ?_
 rintro e w1 ⟨rfl,hw⟩;subst w1;go_wp2_with fail;refine(give_any 1 0 w).mono ?_;rintro e w1 ⟨rfl,hw⟩;subst w1;go_wp2;exact⟨rfl,rfl,rfl⟩
theorem idle_ok (w:World) (ow:Nat->Tg) (b:Nat) (M:Cv) (L:Lay) (id:Nat) (h:CN w ow b M L) (hk:knownB M id=true) (hw:(Lit.int .i64 (id:Int)).wf=true):
 Calls Tryz.prog 154 #[.pointer (some ⟨b,0,none⟩),.int .i64 (id:Nat)] w λe w'=>e= .returned (atI (M.strs.map (·.id)) (sptr L) (.pointer none) (id:Int))/\w'=w:=by
 have HK:=known_any w ow b M L id h;rw[show decide (id % 2=1/\id<=M.last)=true from hk]at HK;have HK:=hid HK;have h0:=look_str h (id:Int) hw;have c15:w.cell? ⟨b,15,none⟩=some (.map (some L.mb)):=h.blk.cell 15;obtain⟨v,hv⟩:∃v,atI (M.strs.map (·.id)) (sptr L) (.pointer none) (id:Int)=v:=⟨_,rfl⟩;rw[hv]at h0 ⊢;clear h hk hv;go_enter Tryz.func154,Tryz.ntmps154;go_wp2_with fail;with_reducible refine HK.out.mono ?_
 rintro e w1 ⟨rfl,hw⟩;subst w1;go_wp2;go_ret;exact⟨rfl,rfl⟩
def wkF (g b:Nat) (k:Int):Option Value:=
 if k=8 then some (.func (.func 158) #[] #[.pointer (some ⟨g,0,none⟩)])else
 if k=7 then some (.func (.func 157) #[] #[.pointer (some ⟨g,0,none⟩)])else
 if k=6 then some (.func (.func 156) #[] #[.pointer (some ⟨g,0,none⟩)])else
 if k=4 then some (.func (.func 155) #[.pointer (some ⟨b,0,none⟩)] #[])else
 if k=3 then some (.func (.func 153) #[] #[.pointer (some ⟨g,0,none⟩)])else
 if k=5 then some (.func (.func 152) #[] #[])else
 if k=9 then some (.func (.func 151) #[] #[.pointer (some ⟨g,0,none⟩)])else
 if k=1 then some (.func (.func 149) #[] #[.pointer (some ⟨g,0,none⟩)])else
 if k=0 then some (.func (.func 148) #[.pointer (some ⟨b,0,none⟩)] #[])else
 none
theorem works_any (b:Nat) (w:World):Calls Tryz.prog 115 #[.pointer (some ⟨b,0,none⟩)] w λe w'=>e= .returned (.map (some (w.heap.size+1)))/\Blk w' w.heap.size 26 #[.pointer (some ⟨b,0,none⟩)]/\HM Tryz.prog 3 w' (w.heap.size+1) 9 (wkF w.heap.size b)/\Below w.heap.size w w':=by
 have ht:∀(fn:Fn) (first cap:Array Value) (w:World),(Instr.makeFunc fn first cap).run Tryz.prog w= .ok (.func fn first cap) w:=λ_ _ _ _=>rfl;have hu:=λW=>run_mkMap (P:=Tryz.prog) 201 W;have HX:=hid (Blk.new w 26 #[.pointer (some ⟨b,0,none⟩)]);have hn:=hid ((Below.refl w.heap.size w).alloc (Nat.le_refl _) (.cells #[.pointer (some ⟨b,0,none⟩)] 26));have HZ:=hid (show(w.alloc (.cells #[.pointer (some ⟨b,0,none⟩)] 26)).heap.size=w.heap.size+1 by simp);go_enter Tryz.func115,Tryz.ntmps115;go_upto_region 1 with fail;generalize w.alloc (.cells #[.pointer (some ⟨b,0,none⟩)] 26)=W0 at*
 have h1:=hid (HM.made Tryz.prog 3 W0);have h2:=hid ((Below.refl W0.heap.size W0).alloc (Nat.le_refl _) (.map #[] 0));have c0:W0.cell? ⟨w.heap.size,0,none⟩=some (.pointer (some ⟨b,0,none⟩)):=HX.out.cell 0;have hq:=HX.out.lt;go_wp2_with (first
  |(with_reducible refine wpList_put _ rfl (.tmp 3) (.const (.int .i64 0)) (.tmp 5) 201 (.inl rfl) Tryz.underlying201 Tryz.underlying3 W0.heap.size 0 _ rfl h1.out ?_ 0 ?_ rfl (.func (.func 148) #[.pointer (some ⟨b,0,none⟩)] #[]) rfl ?_
    · simp only[maxLen];omega
    · decide
    intro w1 hm hg;have h3:=hid hm;have h0:=h2.out.grown hg h2.out.size (λj e=>by injection e with e;omega);have h4:=hid h0;clear c0;have c0:w1.cell? ⟨w.heap.size,0,none⟩=some (.pointer (some ⟨b,0,none⟩)):=(HX.out.below h0 HX.out.lt).cell 0;clear hm hg h1 h0)
  |(with_reducible refine wpList_put _ rfl (.tmp 3) (.const (.int .i64 1)) (.tmp 6) 201 (.inl rfl) Tryz.underlying201 Tryz.underlying3 W0.heap.size 1 _ rfl h3.out ?_ 1 ?_ rfl (.func (.func 149) #[] #[.pointer (some ⟨w.heap.size,0,none⟩)]) rfl ?_
    · simp only[maxLen];omega
    · decide
    intro w2 hm hg;have h5:=hid hm;have h0:=h4.out.grown hg h4.out.size (λj e=>by injection e with e;omega);have h6:=hid h0;clear c0;have c0:w2.cell? ⟨w.heap.size,0,none⟩=some (.pointer (some ⟨b,0,none⟩)):=(HX.out.below h0 HX.out.lt).cell 0;clear hm hg h3 h0)
  |(with_reducible refine wpList_put _ rfl (.tmp 3) (.const (.int .i64 9)) (.tmp 7) 201 (.inl rfl) Tryz.underlying201 Tryz.underlying3 W0.heap.size 2 _ rfl h5.out ?_ 9 ?_ rfl (.func (.func 151) #[] #[.pointer (some ⟨w.heap.size,0,none⟩)]) rfl ?_
    · simp only[maxLen];omega
    · decide
    intro w3 hm hg;have h7:=hid hm;have h0:=h6.out.grown hg h6.out.size (λj e=>by injection e with e;omega);have h8:=hid h0;clear c0;have c0:w3.cell? ⟨w.heap.size,0,none⟩=some (.pointer (some ⟨b,0,none⟩)):=(HX.out.below h0 HX.out.lt).cell 0;clear hm hg h5 h0)
  |(with_reducible refine wpList_put _ rfl (.tmp 3) (.const (.int .i64 5)) (.func 152) 201 (.inl rfl) Tryz.underlying201 Tryz.underlying3 W0.heap.size 3 _ rfl h7.out ?_ 5 ?_ rfl (.func (.func 152) #[] #[]) rfl ?_
    · simp only[maxLen];omega
    · decide
    intro w4 hm hg;have h9:=hid hm;have h0:=h8.out.grown hg h8.out.size (λj e=>by injection e with e;omega);have hb:=hid h0;clear c0;have c0:w4.cell? ⟨w.heap.size,0,none⟩=some (.pointer (some ⟨b,0,none⟩)):=(HX.out.below h0 HX.out.lt).cell 0;clear hm hg h7 h0)
  |(with_reducible refine wpList_put _ rfl (.tmp 3) (.const (.int .i64 3)) (.tmp 8) 201 (.inl rfl) Tryz.underlying201 Tryz.underlying3 W0.heap.size 4 _ rfl h9.out ?_ 3 ?_ rfl (.func (.func 153) #[] #[.pointer (some ⟨w.heap.size,0,none⟩)]) rfl ?_
    · simp only[maxLen];omega
    · decide
    intro w5 hm hg;have hc:=hid hm;have h0:=hb.out.grown hg hb.out.size (λj e=>by injection e with e;omega);have hd:=hid h0;clear c0;have c0:w5.cell? ⟨w.heap.size,0,none⟩=some (.pointer (some ⟨b,0,none⟩)):=(HX.out.below h0 HX.out.lt).cell 0;clear hm hg h9 h0)
  |(with_reducible refine wpList_put _ rfl (.tmp 3) (.const (.int .i64 4)) (.tmp 10) 201 (.inl rfl) Tryz.underlying201 Tryz.underlying3 W0.heap.size 5 _ rfl hc.out ?_ 4 ?_ rfl (.func (.func 155) #[.pointer (some ⟨b,0,none⟩)] #[]) rfl ?_
    · simp only[maxLen];omega
    · decide
    intro w6 hm hg;have he:=hid hm;have h0:=hd.out.grown hg hd.out.size (λj e=>by injection e with e;omega);have hf:=hid h0;clear c0;have c0:w6.cell? ⟨w.heap.size,0,none⟩=some (.pointer (some ⟨b,0,none⟩)):=(HX.out.below h0 HX.out.lt).cell 0;clear hm hg hc h0)
  |(with_reducible refine wpList_put _ rfl (.tmp 3) (.const (.int .i64 6)) (.tmp 11) 201 (.inl rfl) Tryz.underlying201 Tryz.underlying3 W0.heap.size 6 _ rfl he.out ?_ 6 ?_ rfl (.func (.func 156) #[] #[.pointer (some ⟨w.heap.size,0,none⟩)]) rfl ?_
    · simp only[maxLen];omega
    · decide
    intro w7 hm hg;have hh:=hid hm;have h0:=hf.out.grown hg hf.out.size (λj e=>by injection e with e;omega);have hi:=hid h0;clear c0;have c0:w7.cell? ⟨w.heap.size,0,none⟩=some (.pointer (some ⟨b,0,none⟩)):=(HX.out.below h0 HX.out.lt).cell 0;clear hm hg he h0)
  |(with_reducible refine wpList_put _ rfl (.tmp 3) (.const (.int .i64 7)) (.tmp 12) 201 (.inl rfl) Tryz.underlying201 Tryz.underlying3 W0.heap.size 7 _ rfl hh.out ?_ 7 ?_ rfl (.func (.func 157) #[] #[.pointer (some ⟨w.heap.size,0,none⟩)]) rfl ?_
    · simp only[maxLen];omega
    · decide
    intro w8 hm hg;have hj:=hid hm;have h0:=hi.out.grown hg hi.out.size (λj e=>by injection e with e;omega);have hk:=hid h0;clear c0;have c0:w8.cell? ⟨w.heap.size,0,none⟩=some (.pointer (some ⟨b,0,none⟩)):=(HX.out.below h0 HX.out.lt).cell 0;clear hm hg hh h0)
  |(with_reducible refine wpList_put _ rfl (.tmp 3) (.const (.int .i64 8)) (.tmp 13) 201 (.inl rfl) Tryz.underlying201 Tryz.underlying3 W0.heap.size 8 _ rfl hj.out ?_ 8 ?_ rfl (.func (.func 158) #[] #[.pointer (some ⟨w.heap.size,0,none⟩)]) rfl ?_
    · simp only[maxLen];omega
    · decide
    intro w9 hm hg;have ho:=hid hm;have h0:=hk.out.grown hg hk.out.size (λj e=>by injection e with e;omega);have hl:=hid h0;clear c0;have c0:w9.cell? ⟨w.heap.size,0,none⟩=some (.pointer (some ⟨b,0,none⟩)):=(HX.out.below h0 HX.out.lt).cell 0;clear hm hg hj h0)
  |fail)
 go_ret;have e1:=HZ.out;refine⟨by rw[e1];rfl,HX.out.below hl.out HX.out.lt,?_,hn.out.trans (hl.out.mono (by omega))⟩;have h:=ho.out;rw[e1]at h;exact h.same λk=>by unfold wkF;rfl
end Go.Proofs.YtkpppjhbmnfmkaaGreatDoor
end

section
set_option maxHeartbeats 8000000
set_option maxRecDepth 100000
namespace Go.Proofs.YtkpppjhbmnfmkaaGreatDoor
open Lib (hid)
open Go.RowKit Go.Own Go.Own.Im Go.Own.Cx Go.Own.Fr
def prm (n x y:Int):Int:=max 0 (min (max 0 (min n x)) y)
def PrR (n x y:Int) (w:World) (nv iv:Value) (wr:World):Prop:=
 wr=w/\((iv= .int .i64 0/\nv= .int .i64 n)\/(iv= .int .i64 1/\nv= .int .i64 (max 0 (min n x)))\/(iv= .int .i64 2/\nv= .int .i64 (prm n x y)))
theorem pair_room (w:World) (pb rb a c:Nat) (x y n:Int) (hp:Blk w pb 206 #[.slice (some ⟨rb,0,none⟩) 2 2]) (hr:Blk w rb 75 #[.pointer (some ⟨a,0,none⟩),.pointer (some ⟨c,0,none⟩)]) (ha:Blk w a 177 #[.int .i64 x]) (hc:Blk w c 177 #[.int .i64 y]):
 Calls Tryz.prog 75 #[.pointer (some ⟨pb,0,none⟩),.int .i64 n] w λe w'=>e= .returned (.int .i64 (prm n x y))/\w'=w:=by
 have h2:∀(fn:Fn) (first cap:Array Value) (w:World),(Instr.makeFunc fn first cap).run Tryz.prog w= .ok (.func fn first cap) w:=λ_ _ _ _=>rfl;have c0:w.cell? ⟨pb,0,none⟩=some (.slice (some ⟨rb,0,none⟩) 2 2):=hp.cell 0;have r0:w.cell? ⟨rb,0,none⟩=some (.pointer (some ⟨a,0,none⟩)):=hr.cell 0;have r1:w.cell? ⟨rb,1,none⟩=some (.pointer (some ⟨c,0,none⟩)):=hr.cell 1;have HA:=hid (λn=>wroom_any w a x n ha);have HC:=hid (λn=>wroom_any w c y n hc);clear hp hr ha hc;go_enter Tryz.func75,Tryz.ntmps75;go_upto_region 2 with fail;go_loopw [1,13] (λnv iv wr=>Hid (PrR n x y w nv iv wr)) (λ_ iv _=>2-(intOf iv).toNat)
 case atStart=>exact⟨rfl,.inl ⟨rfl,rfl⟩⟩
 case round=>
  obtain⟨rfl,h⟩:=hrel;rcases h with⟨rfl,rfl⟩|⟨rfl,rfl⟩|⟨rfl,rfl⟩
  · go_wp2_with fail
    refine(HA.out n).mono ?_;rintro e w1 ⟨rfl,hw⟩;subst w1;generalize hm:max 0 (min n x)=m;have HM:=hid hm;clear hm;go_wp2_with fail;exact⟨⟨rfl,.inr (.inl ⟨rfl,by rw[HM.out]⟩)⟩,by simp[intOf]⟩
  · obtain⟨m,hm⟩:∃m,max 0 (min n x)=m:=⟨_,rfl⟩
    rw[hm];have HM:=hid hm;clear hm;go_wp2_with fail;refine(HC.out m).mono ?_;rintro e w1 ⟨rfl,hw⟩;subst w1;obtain⟨m2,h0⟩:∃m2,max 0 (min m y)=m2:=⟨_,rfl⟩;rw[h0];have h1:=hid (show prm n x y=m2 by unfold prm;rw[HM.out];exact h0);clear h0;go_wp2_with fail;exact⟨⟨rfl,.inr (.inr ⟨rfl,by rw[h1.out]⟩)⟩,by simp[intOf]⟩
  · obtain⟨m,hm⟩:∃m,prm n x y=m:=⟨_,rfl⟩
    have h3:max 0 m=m:=by rw[<-hm];unfold prm;omega
    have HM:=hid hm;rw[hm];clear hm;go_wp2;go_ret;exact⟨by rw[HM.out];rfl,rfl⟩
def PtR (n x:Int) (a:Nat) (y:Int) (c:Nat) (w:World) (iv:Value) (wr:World):Prop:=
 (iv= .int .i64 0/\wr=w)\/(iv= .int .i64 1/\wr=w.setCell ⟨a,0,none⟩ (.int .i64 (x-n)))\/(iv= .int .i64 2/\wr=(w.setCell ⟨a,0,none⟩ (.int .i64 (x-n))).setCell ⟨c,0,none⟩ (.int .i64 (y-n)))
def PmR (w:World) (iv:Value) (wr:World):Prop:=wr=w/\(iv= .int .i64 0\/iv= .int .i64 1\/iv= .int .i64 2)
theorem pair_take (w:World) (pb rb a c:Nat) (x y:Int) (n:Nat) (hp:Blk w pb 206 #[.slice (some ⟨rb,0,none⟩) 2 2]) (hr:Blk w rb 75 #[.pointer (some ⟨a,0,none⟩),.pointer (some ⟨c,0,none⟩)]) (ha:Blk w a 177 #[.int .i64 x]) (hc:Blk w c 177 #[.int .i64 y])
 (hpa:pb≠a) (h2:rb≠a) (h3:c≠a) (hpc:pb≠c) (hrc:rb≠c) (h0:(n:Int)<=x) (h1:(n:Int)<=y) (hx:x<=2147483647) (hy:y<=2147483647):
 Calls Tryz.prog 76 #[.pointer (some ⟨pb,0,none⟩),.int .i64 (n:Nat)] w λe w'=>e= .returned .nilIface/\w'=(w.setCell ⟨a,0,none⟩ (.int .i64 (x-(n:Int)))).setCell ⟨c,0,none⟩ (.int .i64 (y-(n:Int))):=by
 have h7:∀(fn:Fn) (first cap:Array Value) (w:World),(Instr.makeFunc fn first cap).run Tryz.prog w= .ok (.func fn first cap) w:=λ_ _ _ _=>rfl;have c0:w.cell? ⟨pb,0,none⟩=some (.slice (some ⟨rb,0,none⟩) 2 2):=hp.cell 0;have r0:w.cell? ⟨rb,0,none⟩=some (.pointer (some ⟨a,0,none⟩)):=hr.cell 0;have r1:w.cell? ⟨rb,1,none⟩=some (.pointer (some ⟨c,0,none⟩)):=hr.cell 1;have HA:=hid (may_yes w a x n ha (.inl h0));have HC:=hid (may_yes w c y n hc (.inl h1));have h4:=hid (take_yes w a x n ha (.inl h0) ⟨by omega,hx⟩ (by omega));have h5:=hid (take_yes (w.setCell ⟨a,0,none⟩ (.int .i64 (x-(n:Int)))) c y n ((Below.heap_setCell w _ _ _ h3).trans hc) (.inl h1) ⟨by omega,hy⟩ (by omega));have h6:=hid (show(w.setCell ⟨a,0,none⟩ (.int .i64 (x-(n:Int)))).cell? ⟨rb,1,none⟩=some (.pointer (some ⟨c,0,none⟩))from(show Blk (w.setCell ⟨a,0,none⟩ (.int .i64 (x-(n:Int)))) rb 75 _ from(Below.heap_setCell w _ _ _ h2).trans hr).cell 1);clear hp hr ha hc hpa h2 h3 hpc hrc h0 h1 hx hy;go_enter Tryz.func76,Tryz.ntmps76;go_upto_region 2 with fail;go_loopw [18] (λiv wr=>Hid (PmR w iv wr)) (λiv _=>2-(intOf iv).toNat)
 case atStart=>exact⟨rfl,.inl rfl⟩
 case round=>
  obtain⟨hw,h⟩:=hrel;subst wr;rcases h with rfl|rfl|rfl
  · go_wp2_with fail
    refine HA.out.mono ?_;rintro e w1 ⟨rfl,hw⟩;subst w1;go_wp2_with fail;exact⟨⟨rfl,.inr (.inl rfl)⟩,by simp[intOf]⟩
  · go_wp2_with fail
    refine HC.out.mono ?_;rintro e w1 ⟨rfl,hw⟩;subst w1;go_wp2_with fail;exact⟨⟨rfl,.inr (.inr rfl)⟩,by simp[intOf]⟩
  · go_upto_region 10 with fail
    go_loopw [36] (λiv wr=>Hid (PtR n x a y c w iv wr)) (λiv _=>2-(intOf iv).toNat)
    case atStart=>exact .inl ⟨rfl,rfl⟩
    case round=>
     rcases hrel with⟨rfl,hw⟩|⟨rfl,hw⟩|⟨rfl,hw⟩
     · subst wr
       go_wp2_with fail;refine h4.out.mono ?_;rintro e w1 ⟨rfl,hw⟩;subst w1;go_wp2_with fail;exact⟨.inr (.inl ⟨rfl,rfl⟩),by simp[intOf]⟩
     · subst wr
       have r1':=h6.out;go_wp2_with fail;refine h5.out.mono ?_;rintro e w1 ⟨rfl,hw⟩;subst w1;go_wp2_with fail;exact⟨.inr (.inr ⟨rfl,rfl⟩),by simp[intOf]⟩
     · subst wr
       go_wp2;go_ret;exact⟨rfl,rfl⟩
end Go.Proofs.YtkpppjhbmnfmkaaGreatDoor
end
