import Derived.Test.YtkpppjhbmnfmkaaGreatDoorJaj
import Derived.Test.YtkpppjhbmnfmkaaGreatDoorJac
set_option linter.unusedSimpArgs false
set_option linter.unusedVariables false
namespace Go.Own
open Go Go.RowKit
theorem oper_rowPut {P:Program} {o:Oper} {a:Act} {K:Act->World->Prop} {Q:Exit->Act->World->Prop} (w:World) (p x:Operand) (ty:TypeId) (hop:o.op=Op.store ty p x) (g:Nat) (t:TypeId) (old cells:Array Value) (hp:a.eval p= .pointer (some ⟨g,0,none⟩)) (hx:a.eval x= .agg cells)
 (hb:Blk w g t old) (hi:(P.info? ty).map (·.size)=some cells.size) (ho:old.size=cells.size) (h1:cells.all (·.oneCell')=true)
 (hK:∀w',Blk w' g t cells->w.grownBy w' (some g)->K (a.put o.dst undef) w'):Oper.wp P o a w K Q:=by
 have h0:=run_storeAt_row (P:=P) w g t ty old cells hb hi ho h1;unfold Oper.wp;simp[execOp,hop,hp,hx,h0,Result.andThen];exact hK _ (hb.row cells) (grown_row cells)
end Go.Own
namespace Go.Proofs.YtkpppjhbmnfmkaaGreatDoor
open Go.RowKit Go.Own Go.Own.Fr Go.Own.Im
attribute [local go_sem] Oper.semAt_some
theorem load_row5 {i:Inf} {g:Nat} {A A2:Option Addr} {n n2 c c2:Nat} {w:World} (h:Blk w g 96 (infC i (.slice A n c) (.slice A2 n2 c2))):(Instr.loadAt 96 (.pointer (some ⟨g,0,none⟩))).run Tryz.prog w= .ok (.agg (infC i (.slice A n c) (.slice A2 n2 c2))) w:=
 run_loadAt_row w g _ _ _ h _ Tryz.underlying96 rfl infSize5
theorem res67 {fn:Func} (hr:fn.results= #[.cell 6 96,.cell 7 98]) (tmps:Array Value) (w:World) (g g':Nat) (i:Inf) (sv dv:Value) (z:Nat×Nat×Nat) (h6:tmps[6]?=some (.pointer (some ⟨g,0,none⟩))) (h7:tmps[7]?=some (.pointer (some ⟨g',0,none⟩))) (hb:Blk w g 96 (infC i sv dv)) (hz:Blk w g' 98 (fltR z.1 z.2.1 z.2.2)):
 (results fn tmps).run Tryz.prog w= .ok (.tuple #[.agg (infC i sv dv),.agg (fltR z.1 z.2.1 z.2.2)]) w:=by
 have c0:w.cell? ⟨g,0,none⟩=some (.int .i64 (i.typ:Nat)):=hb.cell 0;have c1:w.cell? ⟨g,1,none⟩=some (.int .i64 (i.flags:Nat)):=hb.cell 1;have c2:w.cell? ⟨g,2,none⟩=some (.int .i64 (i.stream:Nat)):=hb.cell 2;have c3:w.cell? ⟨g,3,none⟩=some (.bool i.endd):=hb.cell 3;have c4:w.cell? ⟨g,4,none⟩=some (.bool i.endHeads):=hb.cell 4;have c5:w.cell? ⟨g,5,none⟩=some (.bool i.ack):=hb.cell 5;have c6:w.cell? ⟨g,6,none⟩=some (.bool i.padded):=hb.cell 6;have c7:w.cell? ⟨g,7,none⟩=some (.bool i.prio):=hb.cell 7;have c8:w.cell? ⟨g,8,none⟩=some (.bool i.alone):=hb.cell 8;have c9:w.cell? ⟨g,9,none⟩=some (.int .i64 (i.pad:Nat)):=hb.cell 9;have c10:w.cell? ⟨g,10,none⟩=some (.int .i64 (i.dep:Nat)):=hb.cell 10;have c11:w.cell? ⟨g,11,none⟩=some (.int .i64 (i.weight:Nat)):=hb.cell 11;have c12:w.cell? ⟨g,12,none⟩=some (.int .i64 (i.code:Nat)):=hb.cell 12;have c13:w.cell? ⟨g,13,none⟩=some (.int .i64 (i.last:Nat)):=hb.cell 13;have c14:w.cell? ⟨g,14,none⟩=some (.int .i64 (i.inc:Nat)):=hb.cell 14;have c15:w.cell? ⟨g,15,none⟩=some (.int .i64 (i.promise:Nat)):=hb.cell 15;have c16:w.cell? ⟨g,16,none⟩=some sv:=hb.cell 16;have c17:w.cell? ⟨g,17,none⟩=some dv:=hb.cell 17;have z0:w.cell? ⟨g',0,none⟩=some (.int .i64 (z.1:Nat)):=hz.cell 0;have z1:w.cell? ⟨g',1,none⟩=some (.int .i64 (z.2.1:Nat)):=hz.cell 1;have z2:w.cell? ⟨g',2,none⟩=some (.int .i64 (z.2.2:Nat)):=hz.cell 2;have z3:w.cell? ⟨g',3,none⟩=some (.slice none 0 0):=hz.cell 3;simp[results,hr,go_sem,h6,h7,c0,c1,c2,c3,c4,c5,c6,c7,c8,c9,c10,c11,c12,c13,c14,c15,c16,c17,z0,z1,z2,z3,infC,fltR]
theorem res4 {fn:Func} (hr:fn.results= #[.cell 4 96]) (tmps:Array Value) (w:World) (g:Nat) (i:Inf) (sv dv:Value) (h4:tmps[4]?=some (.pointer (some ⟨g,0,none⟩))) (hb:Blk w g 96 (infC i sv dv)):
 (results fn tmps).run Tryz.prog w= .ok (.agg (infC i sv dv)) w:=by
 have c0:w.cell? ⟨g,0,none⟩=some (.int .i64 (i.typ:Nat)):=hb.cell 0;have c1:w.cell? ⟨g,1,none⟩=some (.int .i64 (i.flags:Nat)):=hb.cell 1;have c2:w.cell? ⟨g,2,none⟩=some (.int .i64 (i.stream:Nat)):=hb.cell 2;have c3:w.cell? ⟨g,3,none⟩=some (.bool i.endd):=hb.cell 3;have c4:w.cell? ⟨g,4,none⟩=some (.bool i.endHeads):=hb.cell 4;have c5:w.cell? ⟨g,5,none⟩=some (.bool i.ack):=hb.cell 5;have c6:w.cell? ⟨g,6,none⟩=some (.bool i.padded):=hb.cell 6;have c7:w.cell? ⟨g,7,none⟩=some (.bool i.prio):=hb.cell 7;have c8:w.cell? ⟨g,8,none⟩=some (.bool i.alone):=hb.cell 8;have c9:w.cell? ⟨g,9,none⟩=some (.int .i64 (i.pad:Nat)):=hb.cell 9;have c10:w.cell? ⟨g,10,none⟩=some (.int .i64 (i.dep:Nat)):=hb.cell 10;have c11:w.cell? ⟨g,11,none⟩=some (.int .i64 (i.weight:Nat)):=hb.cell 11;have c12:w.cell? ⟨g,12,none⟩=some (.int .i64 (i.code:Nat)):=hb.cell 12;have c13:w.cell? ⟨g,13,none⟩=some (.int .i64 (i.last:Nat)):=hb.cell 13;have c14:w.cell? ⟨g,14,none⟩=some (.int .i64 (i.inc:Nat)):=hb.cell 14;have c15:w.cell? ⟨g,15,none⟩=some (.int .i64 (i.promise:Nat)):=hb.cell 15;have c16:w.cell? ⟨g,16,none⟩=some sv:=hb.cell 16;have c17:w.cell? ⟨g,17,none⟩=some dv:=hb.cell 17;simp[results,hr,go_sem,h4,c0,c1,c2,c3,c4,c5,c6,c7,c8,c9,c10,c11,c12,c13,c14,c15,c16,c17,infC]
def SyPost (W:World) (r:Except (Nat×Nat) Inf) (e:Ending) (w':World):Prop:=Below W.heap.size W w'/\match r with
 | .ok j=>∃(i:Inf) (A:Option Addr) (n c:Nat) (A':Option Addr) (n' c':Nat),e= .returned (.tuple #[.agg (infC i (.slice A n c) (.slice A' n' c')),.agg (fltR 0 0 0)])/\i.inc=j.inc/\i.ack=j.ack
 | .error x=>e= .returned (.tuple #[.agg (infC {} (.slice none 0 0) (.slice none 0 0)),.agg (fltR 99 x.1 x.2)])
structure Q4 (W X:World) (t f s:Nat) (v:Value) (ci cr z:Array Value):Prop where
 f:Blk X W.heap.size 24 #[.int .i64 (t:Nat),.int .i64 (f:Nat),.int .i64 (s:Nat),v]
 i:Blk X (W.heap.size+1) 96 ci
 r:Blk X (W.heap.size+2) 96 cr
 z:Blk X (W.heap.size+3) 98 z
 b:Below W.heap.size W X
theorem blk_at {w:World} {g:Nat} {t:TypeId} {cs:Array Value} (hg:w.heap.size=g):Blk (w.alloc (.cells cs t)) g t cs:=hg▸Blk.new w t cs
theorem q4_start (W:World) (t f s:Nat) (v:Value) (ci:Array Value):∃X,(((W.alloc (.cells #[.int .i64 (t:Nat),.int .i64 (f:Nat),.int .i64 (s:Nat),v] 24)).alloc (.cells ci 96)).alloc (.cells #[.int .i64 0,.int .i64 0,.int .i64 0,.bool false,.bool false,.bool false,.bool false,.bool false,.bool false,.int .i64 0,.int .i64 0,.int .i64 0,.int .i64 0,.int .i64 0,.int .i64 0,.int .i64 0,.slice none 0 0,.slice none 0 0] 96)).alloc (.cells #[.int .i64 0,.int .i64 0,.int .i64 0,.slice none 0 0] 98)=X/\Q4 W X t f s v ci (infC {} (.slice none 0 0) (.slice none 0 0)) (fltR 0 0 0):=by
 refine⟨_,rfl,(((Blk.new W _ _).alloc _).alloc _).alloc _,((blk_at (by simp)).alloc _).alloc _,(blk_at (by simp)).alloc _,blk_at (by simp),((((Below.refl _ _).alloc (Nat.le_refl _) _).alloc (by simp) _).alloc (by simp;omega) _).alloc (by simp;omega) _⟩
section
variable {W X Y:World} {t f s:Nat} {v:Value} {ci cr z:Array Value}
theorem Q4.below (h:Q4 W X t f s v ci cr z) (hb:Below X.heap.size X Y):Q4 W Y t f s v ci cr z:=
 ⟨h.f.below hb h.f.lt,h.i.below hb h.i.lt,h.r.below hb h.r.lt,h.z.below hb h.z.lt,h.b.trans (hb.mono h.b.size)⟩
theorem Q4.grow (h:Q4 W X t f s v ci cr z) {g:Nat} (hg:X.grownBy Y (some g)) (hl:W.heap.size<=g):Below W.heap.size W Y:=h.b.grown hg h.b.size (λj e=>by injection e with e;omega)
theorem Q4.put (h:Q4 W X t f s v ci cr z) (k:Nat) (x:Value):Q4 W (X.setCell ⟨W.heap.size+1,k,none⟩ x) t f s v (ci.setIfInBounds k x) cr z:=
 ⟨h.f.far (show W.heap.size≠W.heap.size+1 by omega) x,h.i.put k x,h.r.far (show W.heap.size+2≠W.heap.size+1 by omega) x,h.z.far (show W.heap.size+3≠W.heap.size+1 by omega) x,h.b.setCell (p:=⟨W.heap.size+1,k,none⟩) (by show W.heap.size<=W.heap.size+1;omega) x⟩
theorem Q4.rowi (h:Q4 W X t f s v ci cr z) {cs:Array Value} (hb:Blk Y (W.heap.size+1) 96 cs) (hg:X.grownBy Y (some (W.heap.size+1))):Q4 W Y t f s v cs cr z:=
 ⟨h.f.grown hg (λe=>by injection e with e;omega),hb,h.r.grown hg (λe=>by injection e with e;omega),h.z.grown hg (λe=>by injection e with e;omega),h.grow hg (by omega)⟩
theorem Q4.row (h:Q4 W X t f s v ci cr z) {cs:Array Value} (hb:Blk Y (W.heap.size+2) 96 cs) (hg:X.grownBy Y (some (W.heap.size+2))):Q4 W Y t f s v ci cs z:=
 ⟨h.f.grown hg (λe=>by injection e with e;omega),h.i.grown hg (λe=>by injection e with e;omega),hb,h.z.grown hg (λe=>by injection e with e;omega),h.grow hg (by omega)⟩
theorem Q4.rowz (h:Q4 W X t f s v ci cr z) {cs:Array Value} (hb:Blk Y (W.heap.size+3) 98 cs) (hg:X.grownBy Y (some (W.heap.size+3))):Q4 W Y t f s v ci cr cs:=
 ⟨h.f.grown hg (λe=>by injection e with e;omega),h.i.grown hg (λe=>by injection e with e;omega),h.r.grown hg (λe=>by injection e with e;omega),hb,h.grow hg (by omega)⟩
end
end Go.Proofs.YtkpppjhbmnfmkaaGreatDoor
