import Derived.Test.YtkpppjhbmnfmkaaGreatDoorFt
import Derived.Laws.EntriesVeiled
set_option linter.unusedSimpArgs false
set_option linter.unusedVariables false
set_option maxHeartbeats 8000000
set_option maxRecDepth 100000
namespace Go.Own
open Lib (hid)
open Go.RowKit
theorem Blk.apart {w:World} {g g':Nat} {t t':TypeId} {cs cs':Array Value} (h:Blk w g t cs) (k:Blk w g' t' cs') (ne:t≠t'):g≠g':=by
 rintro rfl;unfold Blk at h k;rw[h]at k;injection k with k
 injection k with _ k
 exact ne k
theorem Blk.five_put {w:World} {g:Nat} {t:TypeId} {cs:Array Value} (h:Blk w g t cs) (hs:cs.size=5) (v0 v1 v2 v3 v4:Value):Blk (((((w.setCell ⟨g,0,none⟩ v0).setCell ⟨g,1,none⟩ v1).setCell ⟨g,2,none⟩ v2).setCell ⟨g,3,none⟩ v3).setCell ⟨g,4,none⟩ v4) g t #[v0,v1,v2,v3,v4]:=by
 have e:(((((cs.setIfInBounds 0 v0).setIfInBounds 1 v1).setIfInBounds 2 v2).setIfInBounds 3 v3).setIfInBounds 4 v4)= #[v0,v1,v2,v3,v4]:=by
  apply Array.ext
  · simp[hs]
  · intro i h1 h2
    simp at h2;have:i=0\/i=1\/i=2\/i=3\/i=4:=by omega
    rcases this with rfl|rfl|rfl|rfl|rfl<;>simp[Array.getElem_setIfInBounds,hs]
 rw[<-e];exact((((h.put 0 v0).put 1 v1).put 2 v2).put 3 v3).put 4 v4
theorem below_five {B:Nat} {a w:World} {g:Nat} (h:Below B a w) (hg:B<=g) (v0 v1 v2 v3 v4:Value):Below B a (((((w.setCell ⟨g,0,none⟩ v0).setCell ⟨g,1,none⟩ v1).setCell ⟨g,2,none⟩ v2).setCell ⟨g,3,none⟩ v3).setCell ⟨g,4,none⟩ v4):=
 ((((h.setCell (p:=⟨g,0,none⟩) hg v0).setCell (p:=⟨g,1,none⟩) hg v1).setCell (p:=⟨g,2,none⟩) hg v2).setCell (p:=⟨g,3,none⟩) hg v3).setCell (p:=⟨g,4,none⟩) hg v4
theorem grown_five (w:World) (g:Nat) (v0 v1 v2 v3 v4:Value):w.grownBy (((((w.setCell ⟨g,0,none⟩ v0).setCell ⟨g,1,none⟩ v1).setCell ⟨g,2,none⟩ v2).setCell ⟨g,3,none⟩ v3).setCell ⟨g,4,none⟩ v4) (some g):=
 grown_setCell (grown_setCell (grown_setCell (grown_setCell (grown_setCell (World.grownBy.refl w (some g)) 0 v0) 1 v1) 2 v2) 3 v3) 4 v4
end Go.Own
namespace Go.Proofs.YtkpppjhbmnfmkaaGreatDoor
open Lib (hid)
open Go.RowKit Go.Own Go.Own.Fr Go.Own.Im
def rdV (g3 g6 g8:Nat):Nat->Value
 |1=>.func (.func 177) #[] #[]
 |2=>.func (.func 181) #[] #[]
 |3=>.func (.func 215) #[] #[.pointer (some ⟨g3,0,none⟩),.pointer (some ⟨g3+1,0,none⟩)]
 |4=>.func (.func 185) #[] #[]
 |5=>.func (.func 187) #[] #[]
 |6=>.func (.func 215) #[] #[.pointer (some ⟨g6,0,none⟩),.pointer (some ⟨g6+1,0,none⟩)]
 |7=>.func (.func 189) #[] #[]
 |8=>.func (.func 215) #[] #[.pointer (some ⟨g8,0,none⟩),.pointer (some ⟨g8+1,0,none⟩)]
 |_=>.func (.func 175) #[] #[]
def wrV:Nat->Value
 |1=>.func (.func 179) #[] #[]
 |2=>.func (.func 180) #[] #[]
 |3=>.func (.func 184) #[] #[]
 |4=>.func (.func 186) #[] #[]
 |5=>.func (.func 188) #[] #[]
 |7=>.func (.func 190) #[] #[]
 |8=>.func (.func 192) #[] #[]
 |_=>.func (.func 176) #[] #[]
theorem rowsF_is (g3 g6 g8 t:Nat) (h:t<=9):rowsF g3 g6 g8 (t:Int)=some (.agg #[.bool (rowOf t).1,.bool (rowOf t).2.1,.int .i64 ((rowOf t).2.2:Nat),rdV g3 g6 g8 t,wrV t]):=by
 have:t=0\/t=1\/t=2\/t=3\/t=4\/t=5\/t=6\/t=7\/t=8\/t=9:=by omega
 rcases this with rfl|rfl|rfl|rfl|rfl|rfl|rfl|rfl|rfl|rfl<;>rfl
theorem rowsF_none (g3 g6 g8 t:Nat) (h:¬t<=9):rowsF g3 g6 g8 (t:Int)=none:=by
 unfold rowsF;rw[if_neg (by omega),if_neg (by omega),if_neg (by omega),if_neg (by omega),if_neg (by omega),if_neg (by omega),if_neg (by omega),if_neg (by omega),if_neg (by omega),if_neg (by omega)]
theorem rowOf_big (t:Nat) (h:¬t<=9):rowOf t=(true,true,0):=by
 unfold rowOf
 split<;>first|omega|rfl
theorem rdV_big (g3 g6 g8 t:Nat) (h:¬t<=9):rdV g3 g6 g8 t= .func (.func 175) #[] #[]:=by
 unfold rdV
 split<;>first|omega|rfl
theorem wrV_big (t:Nat) (h:¬t<=9):wrV t= .func (.func 176) #[] #[]:=by
 unfold wrV
 split<;>first|omega|rfl
theorem rdV_form (g3 g6 g8 t:Nat):∃K cap,rdV g3 g6 g8 t= .func (.func K) #[] cap:=by
 unfold rdV
 split<;>exact⟨_,_,rfl⟩
theorem wrV_form (t:Nat):∃K,wrV t= .func (.func K) #[] #[]:=by
 unfold wrV
 split<;>exact⟨_,rfl⟩
theorem zero_says (w:World):(zeroValue 184).run Tryz.prog w= .ok (.agg #[.bool false,.bool false,.int .i64 0,.nilFunc,.nilFunc]) w:=by kernel_rfl
theorem results_sort (tmps:Array Value) (w:World) (g:Nat) (a b c d e v:Value) (ht:tmps[2]?=some (.pointer (some ⟨g,0,none⟩))) (h5:tmps[3]?=some v) (hb:Blk w g 184 #[a,b,c,d,e]):
 (results Tryz.f101 tmps).run Tryz.prog w= .ok (.tuple #[.agg #[a,b,c,d,e],v]) w:=by
 have c0:w.cell? ⟨g,0,none⟩=some a:=hb.cell 0;have c1:w.cell? ⟨g,1,none⟩=some b:=hb.cell 1;have c2:w.cell? ⟨g,2,none⟩=some c:=hb.cell 2;have c3:w.cell? ⟨g,3,none⟩=some d:=hb.cell 3;have c4:w.cell? ⟨g,4,none⟩=some e:=hb.cell 4;simp[results,Tryz.results101,go_sem,ht,h5,c0,c1,c2,c3,c4]
theorem results_other (tmps:Array Value) (w:World) (g:Nat) (a b c d e:Value) (ht:tmps[0]?=some (.pointer (some ⟨g,0,none⟩))) (hb:Blk w g 184 #[a,b,c,d,e]):
 (results Tryz.f144 tmps).run Tryz.prog w= .ok (.agg #[a,b,c,d,e]) w:=by
 have c0:w.cell? ⟨g,0,none⟩=some a:=hb.cell 0;have c1:w.cell? ⟨g,1,none⟩=some b:=hb.cell 1;have c2:w.cell? ⟨g,2,none⟩=some c:=hb.cell 2;have c3:w.cell? ⟨g,3,none⟩=some d:=hb.cell 3;have c4:w.cell? ⟨g,4,none⟩=some e:=hb.cell 4;simp[results,Tryz.results144,go_sem,ht,c0,c1,c2,c3,c4]
theorem other_any (w:World):Calls Tryz.prog 144 #[] w λe w'=>e= .returned (.agg #[.bool true,.bool true,.int .i64 0,.func (.func 175) #[] #[],.func (.func 176) #[] #[]])/\
 w'=w.alloc (.cells #[.bool true,.bool true,.int .i64 0,.func (.func 175) #[] #[],.func (.func 176) #[] #[]] 184):=by
 go_enter Tryz.func144,Tryz.ntmps144;go_wp2;exact bodyPost_ret (results_other _ _ w.heap.size _ _ _ _ _ rfl (Blk.new _ _ _)) rfl ⟨rfl,rfl⟩
def ExS (w:World) (g3 g6 g8:Nat):Prop:=ExC w g3 4 (.func (.func 183) #[] #[])/\ExC w g6 8 (.func (.func 175) #[] #[])/\ExC w g8 4 (.func (.func 191) #[] #[])
theorem ExS.below {w w':World} {g3 g6 g8:Nat} (h:ExS w g3 g6 g8) (hb:Below w.heap.size w w'):ExS w' g3 g6 g8:=⟨h.1.below hb,h.2.1.below hb,h.2.2.below hb⟩
theorem ExC.five {w:World} {g b:Nat} {n:Int} {f:Value} {cs:Array Value} (h:ExC w g n f) (hb:Blk w b 184 cs) (v0 v1 v2 v3 v4:Value) (o:Obj):ExC ((((((w.setCell ⟨b,0,none⟩ v0).setCell ⟨b,1,none⟩ v1).setCell ⟨b,2,none⟩ v2).setCell ⟨b,3,none⟩ v3).setCell ⟨b,4,none⟩ v4).alloc o) g n f:=
 ⟨(h.1.grown (grown_five w b v0 v1 v2 v3 v4) (λe=>by injection e with e;exact h.1.apart hb (by decide) e)).alloc o,(h.2.grown (grown_five w b v0 v1 v2 v3 v4) (λe=>by injection e with e;exact h.2.apart hb (by decide) e)).alloc o⟩
def SoPost (t:Nat) (w:World) (e:Ending) (w':World):Prop:=
 ∃g3 g6 g8:Nat,e= .returned (.tuple #[.agg #[.bool (rowOf t).1,.bool (rowOf t).2.1,.int .i64 ((rowOf t).2.2:Nat),rdV g3 g6 g8 t,wrV t],.bool (decide (t<=9))])/\ExS w' g3 g6 g8/\Below w.heap.size w w'
theorem sort_any (t:Nat) (w:World) (ht:t<=255):Calls Tryz.prog 101 #[.int .i64 (t:Int)] w (SoPost t w):=by
 have HT:=hid (show(Lit.int .i64 (t:Int)).wf=true by simp[Lit.wf,IntKind.min,IntKind.max,IntKind.bits,IntKind.signed];omega);clear ht;go_enter Tryz.func101,Tryz.ntmps101;go_upto_region 1 with fail;have HX:=hid (Blk.new w 184 #[.bool false,.bool false,.int .i64 0,.nilFunc,.nilFunc]);have he:=hid ((Below.refl w.heap.size w).alloc (Nat.le_refl _) (.cells #[.bool false,.bool false,.int .i64 0,.nilFunc,.nilFunc] 184));have HZ:=hid (show(w.alloc (.cells #[.bool false,.bool false,.int .i64 0,.nilFunc,.nilFunc] 184)).heap.size=w.heap.size+1 by simp);generalize w.alloc (.cells #[.bool false,.bool false,.int .i64 0,.nilFunc,.nilFunc] 184)=w0 at HX he HZ ⊢;go_wp2_with fail;refine(types_any w0).mono ?_;rintro e w1 ⟨g3,g6,g8,rfl,hm,h3,h6,h8,hb⟩;have h1:=hm.look_ok Tryz.underlying216 Tryz.underlying3 (zero_says w1) HT.out;have HE:=hid (show ExS w1 g3 g6 g8 from⟨h3,h6,h8⟩);have h0:=hid (HX.out.below hb HX.out.lt);have h2:=hid (he.out.trans (hb.mono (by have:=HZ.out;omega)));have HL:=hid (show w.heap.size<w1.heap.size by have:=HZ.out;have:=hb.size;omega);clear hm h3 h6 h8 hb;by_cases h9:t<=9
 · rw[rowsF_is g3 g6 g8 t h9]at h1
   simp only[Option.getD_some,Option.isSome_some]at h1;obtain⟨b1,h4⟩:∃b,(rowOf t).1=b:=⟨_,rfl⟩;obtain⟨b2,h5⟩:∃b,(rowOf t).2.1=b:=⟨_,rfl⟩;obtain⟨n3,h7⟩:∃b,(rowOf t).2.2=b:=⟨_,rfl⟩;obtain⟨K1,cap1,hc⟩:=rdV_form g3 g6 g8 t;obtain⟨K2,hd⟩:=wrV_form t;rw[h4,h5,h7,hc,hd]at h1;have HQ:=hid (show(rowOf t).1=b1/\(rowOf t).2.1=b2/\(rowOf t).2.2=n3/\rdV g3 g6 g8 t= .func (.func K1) #[] cap1/\wrV t= .func (.func K2) #[] #[]from⟨h4,h5,h7,hc,hd⟩);clear h4 h5 h7 hc hd;have H9:=hid h9;clear h9;have f0:=h0.out.frozen 0;have f1:=h0.out.frozen 1;have f2:=h0.out.frozen 2;have f3:=h0.out.frozen 3;have f4:=h0.out.frozen 4;have c0:w1.cell? ⟨w.heap.size,0,none⟩=_:=h0.out.cell 0;have c1:w1.cell? ⟨w.heap.size,1,none⟩=_:=h0.out.cell 1;have c2:w1.cell? ⟨w.heap.size,2,none⟩=_:=h0.out.cell 2;have c3:w1.cell? ⟨w.heap.size,3,none⟩=_:=h0.out.cell 3;have c4:w1.cell? ⟨w.heap.size,4,none⟩=_:=h0.out.cell 4;simp only[List.getElem?_toArray,List.getElem?_cons_zero,List.getElem?_cons_succ]at c0 c1 c2 c3 c4;have hne:¬w.heap.size=w1.heap.size:=by have:=HL.out;omega
   have hf:=HL.out;go_wp2;refine bodyPost_ret (results_sort _ _ w.heap.size _ _ _ _ _ _ rfl rfl ((Blk.five_put h0.out rfl _ _ _ _ _).alloc _)) rfl ?_;obtain⟨q1,q2,q3,q4,q5⟩:=HQ.out;refine⟨g3,g6,g8,by rw[q1,q2,q3,q4,q5,decide_eq_true H9.out];rfl,⟨HE.out.1.five h0.out _ _ _ _ _ _,HE.out.2.1.five h0.out _ _ _ _ _ _,HE.out.2.2.five h0.out _ _ _ _ _ _⟩,?_⟩;exact(below_five h2.out (Nat.le_refl _) _ _ _ _ _).alloc (by simpa using h2.out.size) _
 · rw[rowsF_none g3 g6 g8 t h9]at h1
   simp only[Option.getD_none,Option.isSome_none]at h1;have H9:=hid h9;clear h9;have f0:=h0.out.frozen 0;have f1:=h0.out.frozen 1;have f2:=h0.out.frozen 2;have f3:=h0.out.frozen 3;have f4:=h0.out.frozen 4;have c0:w1.cell? ⟨w.heap.size,0,none⟩=_:=h0.out.cell 0;have c1:w1.cell? ⟨w.heap.size,1,none⟩=_:=h0.out.cell 1;have c2:w1.cell? ⟨w.heap.size,2,none⟩=_:=h0.out.cell 2;have c3:w1.cell? ⟨w.heap.size,3,none⟩=_:=h0.out.cell 3;have c4:w1.cell? ⟨w.heap.size,4,none⟩=_:=h0.out.cell 4;simp only[List.getElem?_toArray,List.getElem?_cons_zero,List.getElem?_cons_succ]at c0 c1 c2 c3 c4;have hne:¬w.heap.size=w1.heap.size:=by have:=HL.out;omega
   have hf:=HL.out;go_wp2_with fail;refine(other_any _).mono ?_;rintro e w2 ⟨rfl,hw⟩;subst w2;go_wp2;refine bodyPost_ret (results_sort _ _ w.heap.size _ _ _ _ _ _ rfl rfl (((Blk.five_put h0.out rfl _ _ _ _ _).alloc _).alloc _)) rfl ?_;refine⟨g3,g6,g8,by rw[rowOf_big t H9.out,rdV_big g3 g6 g8 t H9.out,wrV_big t H9.out,decide_eq_false H9.out];rfl,⟨?_,?_,?_⟩,?_⟩
   · exact(λh=>⟨h.1.alloc _,h.2.alloc _⟩:ExC _ _ _ _->ExC (World.alloc _ _) _ _ _) (HE.out.1.five h0.out _ _ _ _ _ _)
   · exact(λh=>⟨h.1.alloc _,h.2.alloc _⟩:ExC _ _ _ _->ExC (World.alloc _ _) _ _ _) (HE.out.2.1.five h0.out _ _ _ _ _ _)
   · exact(λh=>⟨h.1.alloc _,h.2.alloc _⟩:ExC _ _ _ _->ExC (World.alloc _ _) _ _ _) (HE.out.2.2.five h0.out _ _ _ _ _ _)
   · exact((below_five h2.out (Nat.le_refl _) _ _ _ _ _).alloc (by simpa using h2.out.size) _).alloc (by have:=h2.out.size;simp;omega) _
theorem fault_any (c s:Int) (w:World):Calls Tryz.prog 145 #[.int .i64 c,.int .i64 s] w λe w'=>e= .returned (.iface 196 (.pointer (some ⟨w.heap.size,0,none⟩)))/\w'=w.alloc (.cells #[.int .i64 c,.int .i64 s] 199):=by
 go_enter Tryz.func145,Tryz.ntmps145;go_wp2;go_ret;exact⟨rfl,rfl⟩
end Go.Proofs.YtkpppjhbmnfmkaaGreatDoor
