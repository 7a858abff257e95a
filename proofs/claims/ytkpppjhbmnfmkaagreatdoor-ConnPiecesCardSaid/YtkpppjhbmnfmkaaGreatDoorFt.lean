import Derived.Test.YtkpppjhbmnfmkaaGreatDoorJab
import Derived.Test.YtkpppjhbmnfmkaaGreatDoorJac
import Derived.Deep.DeepCutAuto
set_option linter.unusedSimpArgs false
set_option linter.unusedVariables false
set_option maxHeartbeats 8000000
set_option maxRecDepth 100000
namespace Go.Proofs.YtkpppjhbmnfmkaaGreatDoor
open Lib (hid)
open Go.RowKit Go.Own Go.Own.Fr Go.Own.Im
def ExC (w:World) (g:Nat) (n:Int) (f:Value):Prop:=Blk w g 3 #[.int .i64 n]/\Blk w (g+1) 181 #[f]
theorem ExC.below {w w':World} {g:Nat} {n:Int} {f:Value} (h:ExC w g n f) (hb:Below w.heap.size w w'):ExC w' g n f:=⟨h.1.below hb h.1.lt,h.2.below hb h.2.lt⟩
theorem ExC.grown {w w':World} {g r:Nat} {n:Int} {f:Value} (h:ExC w g n f) (hb:w.grownBy w' (some r)) (hr:r<g):ExC w' g n f:=⟨h.1.grown hb (by intro e;injection e with e;omega),h.2.grown hb (by intro e;injection e with e;omega)⟩
theorem ExC.box {w:World} {g:Nat} {n:Int} {f:Value} (h:ExC w g n f) (o o':Obj):ExC ((w.alloc o).alloc o') g n f:=⟨(h.1.alloc o).alloc o',(h.2.alloc o).alloc o'⟩
def rowsF (g3 g6 g8:Nat) (k:Int):Option Value:=
 if k=9 then some (.agg #[.bool false,.bool true,.int .i64 4,(.func (.func 175) #[] #[]),(.func (.func 176) #[] #[])])else
 if k=8 then some (.agg #[.bool true,.bool true,.int .i64 0,(.func (.func 215) #[] #[.pointer (some ⟨g8,0,none⟩),.pointer (some ⟨g8+1,0,none⟩)]),(.func (.func 192) #[] #[])])else
 if k=7 then some (.agg #[.bool true,.bool false,.int .i64 0,(.func (.func 189) #[] #[]),(.func (.func 190) #[] #[])])else
 if k=6 then some (.agg #[.bool true,.bool false,.int .i64 1,(.func (.func 215) #[] #[.pointer (some ⟨g6,0,none⟩),.pointer (some ⟨g6+1,0,none⟩)]),(.func (.func 176) #[] #[])])else
 if k=5 then some (.agg #[.bool false,.bool true,.int .i64 12,(.func (.func 187) #[] #[]),(.func (.func 188) #[] #[])])else
 if k=4 then some (.agg #[.bool true,.bool false,.int .i64 1,(.func (.func 185) #[] #[]),(.func (.func 186) #[] #[])])else
 if k=3 then some (.agg #[.bool false,.bool true,.int .i64 0,(.func (.func 215) #[] #[.pointer (some ⟨g3,0,none⟩),.pointer (some ⟨g3+1,0,none⟩)]),(.func (.func 184) #[] #[])])else
 if k=2 then some (.agg #[.bool false,.bool true,.int .i64 0,(.func (.func 181) #[] #[]),(.func (.func 180) #[] #[])])else
 if k=1 then some (.agg #[.bool false,.bool true,.int .i64 45,(.func (.func 177) #[] #[]),(.func (.func 179) #[] #[])])else
 if k=0 then some (.agg #[.bool false,.bool true,.int .i64 9,(.func (.func 175) #[] #[]),(.func (.func 176) #[] #[])])else
 none
theorem exactly_any (n:Int) (k:Nat) (w:World):Calls Tryz.prog 182 #[.int .i64 n,.func (.func k) #[] #[]] w λe w'=>e= .returned (.func (.func 215) #[] #[.pointer (some ⟨w.heap.size,0,none⟩),.pointer (some ⟨w.heap.size+1,0,none⟩)])/\w'=(w.alloc (.cells #[.int .i64 n] 3)).alloc (.cells #[.func (.func k) #[] #[]] 181):=by
 have h0:∀(fn:Fn) (first cap:Array Value) (w:World),(Instr.makeFunc fn first cap).run Tryz.prog w= .ok (.func fn first cap) w:=λ_ _ _ _=>rfl;go_enter Tryz.func182,Tryz.ntmps182;go_wp2;go_ret;exact⟨rfl,rfl⟩
theorem exC_new (w:World) (n:Int) (f:Value):ExC ((w.alloc (.cells #[.int .i64 n] 3)).alloc (.cells #[f] 181)) w.heap.size n f:=
 ⟨(Blk.new w 3 #[.int .i64 n]).alloc _,by
   have h:=Blk.new (w.alloc (.cells #[.int .i64 n] 3)) 181 #[f];rw[show(w.alloc (.cells #[.int .i64 n] 3)).heap.size=w.heap.size+1 by simp]at h;exact h⟩
def TyPost (w:World) (e:Ending) (w':World):Prop:=
 ∃g3 g6 g8:Nat,e= .returned (.map (some w.heap.size))/\HM Tryz.prog 3 w' w.heap.size 10 (rowsF g3 g6 g8)/\ExC w' g3 4 (.func (.func 183) #[] #[])/\ExC w' g6 8 (.func (.func 175) #[] #[])/\ExC w' g8 4 (.func (.func 191) #[] #[])/\Below w.heap.size w w'
theorem types_any (w:World):Calls Tryz.prog 143 #[] w (TyPost w):=by
 have hM:=λW=>run_mkMap (P:=Tryz.prog) 216 W;have hf:=hid (HM.made Tryz.prog 3 w);have hh:=hid ((Below.refl w.heap.size w).alloc (Nat.le_refl _) (.map #[] 0));go_enter Tryz.func143,Tryz.ntmps143;go_upto_region 1 with fail;go_wp2_with (first
  |(with_reducible refine wpList_put _ rfl (.tmp 1) (.const (.int .i64 0)) (.tmp 2) 216 (.inl rfl) Tryz.underlying216 Tryz.underlying3 w.heap.size 0 _ rfl hf.out ?_ 0 ?_ rfl (.agg #[.bool false,.bool true,.int .i64 9,(.func (.func 175) #[] #[]),(.func (.func 176) #[] #[])]) rfl ?_
    · simp only[maxLen];omega
    · decide
    intro w0 hm hg;have hi:=hid hm;have hj:=hid (hh.out.grown hg hh.out.size (λj e=>by injection e with e;omega));clear hm hg hf)
  |(with_reducible refine wpList_put _ rfl (.tmp 1) (.const (.int .i64 1)) (.tmp 3) 216 (.inl rfl) Tryz.underlying216 Tryz.underlying3 w.heap.size 1 _ rfl hi.out ?_ 1 ?_ rfl (.agg #[.bool false,.bool true,.int .i64 45,(.func (.func 177) #[] #[]),(.func (.func 179) #[] #[])]) rfl ?_
    · simp only[maxLen];omega
    · decide
    intro w1 hm hg;have hk:=hid hm;have hl:=hid (hj.out.grown hg hj.out.size (λj e=>by injection e with e;omega));clear hm hg hi)
  |(with_reducible refine wpList_put _ rfl (.tmp 1) (.const (.int .i64 2)) (.tmp 4) 216 (.inl rfl) Tryz.underlying216 Tryz.underlying3 w.heap.size 2 _ rfl hk.out ?_ 2 ?_ rfl (.agg #[.bool false,.bool true,.int .i64 0,(.func (.func 181) #[] #[]),(.func (.func 180) #[] #[])]) rfl ?_
    · simp only[maxLen];omega
    · decide
    intro w2 hm hg;have hn:=hid hm;have hc:=hid (hl.out.grown hg hl.out.size (λj e=>by injection e with e;omega));have ho:=hid (show True from trivial);clear hm hg hk)
  |(go_at_call 182
    have _t:=ho;refine(exactly_any 4 183 _).mono ?_;rintro e w30 ⟨rfl,hw⟩;have h0:=hid (exC_new w2 4 (.func (.func 183) #[] #[]));have h3:=hid ((hn.out.alloc (.cells #[.int .i64 4] 3)).alloc (.cells #[(.func (.func 183) #[] #[])] 181));have h4:=hid ((hc.out.alloc hc.out.size (.cells #[.int .i64 4] 3)).alloc (Nat.le_trans hc.out.size (by simp)) (.cells #[(.func (.func 183) #[] #[])] 181));have h2:=hid (show w.heap.size<w2.heap.size from hn.out.lt);rw[<-hw]at h0 h3 h4;clear hw ho)
  |(with_reducible refine wpList_put _ rfl (.tmp 1) (.const (.int .i64 3)) (.tmp 6) 216 (.inl rfl) Tryz.underlying216 Tryz.underlying3 w.heap.size 3 _ rfl h3.out ?_ 3 ?_ rfl (.agg #[.bool false,.bool true,.int .i64 0,(.func (.func 215) #[] #[.pointer (some ⟨w2.heap.size,0,none⟩),.pointer (some ⟨w2.heap.size+1,0,none⟩)]),(.func (.func 184) #[] #[])]) rfl ?_
    · simp only[maxLen];omega
    · decide
    intro w3 hm hg;have hq:=hid hm;have hs:=hid (h4.out.grown hg h4.out.size (λj e=>by injection e with e;omega));have h0:=hid (h0.out.grown hg h2.out);clear hm hg h3)
  |(with_reducible refine wpList_put _ rfl (.tmp 1) (.const (.int .i64 4)) (.tmp 7) 216 (.inl rfl) Tryz.underlying216 Tryz.underlying3 w.heap.size 4 _ rfl hq.out ?_ 4 ?_ rfl (.agg #[.bool true,.bool false,.int .i64 1,(.func (.func 185) #[] #[]),(.func (.func 186) #[] #[])]) rfl ?_
    · simp only[maxLen];omega
    · decide
    intro w4 hm hg;have ht:=hid hm;have hu:=hid (hs.out.grown hg hs.out.size (λj e=>by injection e with e;omega));have h0:=hid (h0.out.grown hg h2.out);clear hm hg hq)
  |(with_reducible refine wpList_put _ rfl (.tmp 1) (.const (.int .i64 5)) (.tmp 8) 216 (.inl rfl) Tryz.underlying216 Tryz.underlying3 w.heap.size 5 _ rfl ht.out ?_ 5 ?_ rfl (.agg #[.bool false,.bool true,.int .i64 12,(.func (.func 187) #[] #[]),(.func (.func 188) #[] #[])]) rfl ?_
    · simp only[maxLen];omega
    · decide
    intro w5 hm hg;have hA:=hid hm;have hd:=hid (hu.out.grown hg hu.out.size (λj e=>by injection e with e;omega));have h0:=hid (h0.out.grown hg h2.out);have hC:=hid (show True from trivial);clear hm hg ht)
  |(go_at_call 182
    have _t:=hC;refine(exactly_any 8 175 _).mono ?_;rintro e w60 ⟨rfl,hw⟩;have h1:=hid (exC_new w5 8 (.func (.func 175) #[] #[]));have h0:=hid (h0.out.box (.cells #[.int .i64 8] 3) (.cells #[(.func (.func 175) #[] #[])] 181));have h5:=hid ((hA.out.alloc (.cells #[.int .i64 8] 3)).alloc (.cells #[(.func (.func 175) #[] #[])] 181));have h6:=hid ((hd.out.alloc hd.out.size (.cells #[.int .i64 8] 3)).alloc (Nat.le_trans hd.out.size (by simp)) (.cells #[(.func (.func 175) #[] #[])] 181));have hb:=hid (show w.heap.size<w5.heap.size from hA.out.lt);rw[<-hw]at h1 h5 h6 h0;clear hw hC)
  |(with_reducible refine wpList_put _ rfl (.tmp 1) (.const (.int .i64 6)) (.tmp 10) 216 (.inl rfl) Tryz.underlying216 Tryz.underlying3 w.heap.size 6 _ rfl h5.out ?_ 6 ?_ rfl (.agg #[.bool true,.bool false,.int .i64 1,(.func (.func 215) #[] #[.pointer (some ⟨w5.heap.size,0,none⟩),.pointer (some ⟨w5.heap.size+1,0,none⟩)]),(.func (.func 176) #[] #[])]) rfl ?_
    · simp only[maxLen];omega
    · decide
    intro w6 hm hg;have hD:=hid hm;have hE:=hid (h6.out.grown hg h6.out.size (λj e=>by injection e with e;omega));have h0:=hid (h0.out.grown hg h2.out);have h1:=hid (h1.out.grown hg hb.out);clear hm hg h5)
  |(with_reducible refine wpList_put _ rfl (.tmp 1) (.const (.int .i64 7)) (.tmp 11) 216 (.inl rfl) Tryz.underlying216 Tryz.underlying3 w.heap.size 7 _ rfl hD.out ?_ 7 ?_ rfl (.agg #[.bool true,.bool false,.int .i64 0,(.func (.func 189) #[] #[]),(.func (.func 190) #[] #[])]) rfl ?_
    · simp only[maxLen];omega
    · decide
    intro w7 hm hg;have hF:=hid hm;have he:=hid (hE.out.grown hg hE.out.size (λj e=>by injection e with e;omega));have h0:=hid (h0.out.grown hg h2.out);have h1:=hid (h1.out.grown hg hb.out);have hG:=hid (show True from trivial);clear hm hg hD)
  |(go_at_call 182
    have _t:=hG;refine(exactly_any 4 191 _).mono ?_;rintro e w80 ⟨rfl,hw⟩;have h9:=hid (exC_new w7 4 (.func (.func 191) #[] #[]));have h0:=hid (h0.out.box (.cells #[.int .i64 4] 3) (.cells #[(.func (.func 191) #[] #[])] 181));have h1:=hid (h1.out.box (.cells #[.int .i64 4] 3) (.cells #[(.func (.func 191) #[] #[])] 181));have h7:=hid ((hF.out.alloc (.cells #[.int .i64 4] 3)).alloc (.cells #[(.func (.func 191) #[] #[])] 181));have h8:=hid ((he.out.alloc he.out.size (.cells #[.int .i64 4] 3)).alloc (Nat.le_trans he.out.size (by simp)) (.cells #[(.func (.func 191) #[] #[])] 181));have hH:=hid (show w.heap.size<w7.heap.size from hF.out.lt);rw[<-hw]at h9 h7 h8 h0 h1;clear hw hG)
  |(with_reducible refine wpList_put _ rfl (.tmp 1) (.const (.int .i64 8)) (.tmp 13) 216 (.inl rfl) Tryz.underlying216 Tryz.underlying3 w.heap.size 8 _ rfl h7.out ?_ 8 ?_ rfl (.agg #[.bool true,.bool true,.int .i64 0,(.func (.func 215) #[] #[.pointer (some ⟨w7.heap.size,0,none⟩),.pointer (some ⟨w7.heap.size+1,0,none⟩)]),(.func (.func 192) #[] #[])]) rfl ?_
    · simp only[maxLen];omega
    · decide
    intro w8 hm hg;have hI:=hid hm;have hJ:=hid (h8.out.grown hg h8.out.size (λj e=>by injection e with e;omega));have h0:=hid (h0.out.grown hg h2.out);have h1:=hid (h1.out.grown hg hb.out);have h9:=hid (h9.out.grown hg hH.out);clear hm hg h7)
  |(with_reducible refine wpList_put _ rfl (.tmp 1) (.const (.int .i64 9)) (.tmp 14) 216 (.inl rfl) Tryz.underlying216 Tryz.underlying3 w.heap.size 9 _ rfl hI.out ?_ 9 ?_ rfl (.agg #[.bool false,.bool true,.int .i64 4,(.func (.func 175) #[] #[]),(.func (.func 176) #[] #[])]) rfl ?_
    · simp only[maxLen];omega
    · decide
    intro w9 hm hg;have hK:=hid hm;have hL:=hid (hJ.out.grown hg hJ.out.size (λj e=>by injection e with e;omega));have h0:=hid (h0.out.grown hg h2.out);have h1:=hid (h1.out.grown hg hb.out);have h9:=hid (h9.out.grown hg hH.out);clear hm hg hI)
  |fail)
 go_ret;exact⟨w2.heap.size,w5.heap.size,w7.heap.size,rfl,hK.out,h0.out,h1.out,h9.out,hL.out⟩
end Go.Proofs.YtkpppjhbmnfmkaaGreatDoor
