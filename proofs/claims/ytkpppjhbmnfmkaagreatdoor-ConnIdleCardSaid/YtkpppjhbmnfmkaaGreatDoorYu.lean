import Derived.Test.YtkpppjhbmnfmkaaGreatDoorJau
set_option linter.unusedSimpArgs false
set_option linter.unusedVariables false
namespace Go.Proofs.YtkpppjhbmnfmkaaGreatDoor
open Go.RowKit Go.Own Go.Own.Fr Go.Own.Im
attribute [local go_sem] Oper.semAt_some
def opn2 (t f s:Nat) (p:List UInt8):Except (Nat×Nat) Inf:=
 if hasF t f 8=true then
  match p with
  |[]=>.error (6,0)
  |c::q=>if p.length<=c.toNat then .error (1,0)else rd {info0 t f s with pad:=c.toNat} (q.take (q.length-c.toNat))
 else rd (info0 t f s) p
theorem row_big {t:Nat} (h:9<t):rowOf t=(true,true,0):=by
 obtain⟨k,rfl⟩:∃k,t=k+10:=⟨t-10,by omega⟩
 rfl
theorem row_str (t:Nat):strW t=1/\(rowOf t).1=false/\(rowOf t).2.1=true\/strW t=0/\(rowOf t).1=true/\(rowOf t).2.1=false\/strW t= -1/\(rowOf t).1=true/\(rowOf t).2.1=true:=by
 rcases ten t with rfl|rfl|rfl|rfl|rfl|rfl|rfl|rfl|rfl|rfl|h
 all_goals first
  |(unfold strW;rw[row_big h];simp)
  |(unfold strW rowOf;simp)
theorem opn_str (t f s:Nat) (p:List UInt8):(strW t=1/\s=0/\opn t f s p= .error (1,0))\/(strW t=0/\s≠0/\opn t f s p= .error (1,0))\/
 (strW t=1/\s≠0/\opn t f s p=opn2 t f s p)\/(strW t=0/\s=0/\opn t f s p=opn2 t f s p)\/(strW t= -1/\opn t f s p=opn2 t f s p):=by
 have hb:((s=0/\(rowOf t).1=false)\/(s≠0/\(rowOf t).2.1=false))->opn t f s p= .error (1,0):=λh=>if_pos h;have hg:¬((s=0/\(rowOf t).1=false)\/(s≠0/\(rowOf t).2.1=false))->opn t f s p=opn2 t f s p:=λh=>if_neg h;by_cases hs:s=0<;>rcases row_str t with⟨h1,h2,h3⟩|⟨h1,h2,h3⟩|⟨h1,h2,h3⟩<;>rw[h2,h3]at hb hg<;>simp[hs]at hb hg<;>simp[h1,hs,hb,hg]
theorem hasF_is (t f k:Nat):hasF t f k=((rowOf t).2.2&&& k&&& f != 0):=by unfold hasF;rw[Nat.and_assoc,Nat.and_comm f k,<-Nat.and_assoc]
theorem has8 (t f:Nat):hasF t f 8=(decide (t=0\/t=1\/t=5)&&(f&&& 8 != 0)):=by
 rw[hasF_is,Nat.and_comm f 8];rcases ten t with rfl|rfl|rfl|rfl|rfl|rfl|rfl|rfl|rfl|rfl|h
 all_goals first
  |(rw[row_big h,decide_eq_false (by omega)];simp)
  |(simp[rowOf])
theorem has32 (f:Nat):hasF 1 f 32=(f&&& 32 != 0):=by rw[hasF_is,Nat.and_comm f 32];simp[rowOf]
theorem ack_is (t f:Nat):((rowOf t).1&&hasF t f 1)=if t=4\/t=6 then f&&& 1 != 0 else false:=by
 rw[hasF_is,Nat.and_comm f 1];rcases ten t with rfl|rfl|rfl|rfl|rfl|rfl|rfl|rfl|rfl|rfl|h
 all_goals first
  |(rw[row_big h,if_neg (by omega)];simp)
  |(simp[rowOf])
theorem siz_pads {t f s n:Nat} (h:t=0\/t=1\/t=5):sizF t f s n=none:=by
 rcases h with rfl|rfl|rfl<;>simp[sizF]
theorem siz_bad {t f s n:Nat} {p:List UInt8} {x:Nat×Nat} (h:sizF t f s n=some x) (hl:p.length=n):opn2 t f s p= .error x:=by
 have h8:hasF t f 8=false:=by
  rw[has8];by_cases hp:t=0\/t=1\/t=5
  · rw[siz_pads hp]at h;cases h
  · simp[hp]
 unfold opn2;rw[if_neg (by simp[h8])];have hb:f&&& 1<2:=Nat.lt_of_le_of_lt Nat.and_le_right (by omega);rcases ten t with rfl|rfl|rfl|rfl|rfl|rfl|rfl|rfl|rfl|rfl|h9
 · simp[sizF]at h
 · simp[sizF]at h
 · rw[rd_2 rfl,if_neg (by rw[hl];intro e;simp[sizF,e]at h)]
   have:n≠5:=λe=>by simp[sizF,e]at h
   simp[sizF,this]at h;rw[<-h]
   rfl
 · rw[rd_3 rfl,if_neg (by rw[hl];intro e;simp[sizF,e]at h)]
   simp[sizF]at h;rw[h.2]
 · have ha:(info0 4 f s).ack=(f&&& 1 != 0):=(ack_is 4 f).trans (if_pos (Or.inl rfl))
   simp[sizF]at h;rw[rd_4 rfl,if_pos (by
    rw[ha,hl];rcases h.1 with h|h
    · exact .inl ⟨by simp[h.1],h.2⟩
    · exact .inr h),h.2]
 · simp[sizF]at h
 · rw[rd_6 rfl,if_neg (by rw[hl];intro e;simp[sizF,e]at h)]
   simp[sizF]at h;rw[h.2]
 · simp[sizF]at h
   rw[rd_7 rfl,if_pos (by rw[hl];omega),h.2]
 · rw[rd_8 rfl,if_neg (by rw[hl];intro e;simp[sizF,e]at h)]
   simp[sizF]at h;rw[h.2]
 · simp[sizF]at h
 · have e2:t≠2:=by omega
   simp[sizF,e2,show t≠3 by omega,show t≠8 by omega,show t≠6 by omega,show t≠4 by omega,show t≠7 by omega]at h
structure O3 (W X:World) (t f s:Nat) (v:Value) (cr z:Array Value):Prop where
 f:Blk X W.heap.size 24 #[.int .i64 (t:Nat),.int .i64 (f:Nat),.int .i64 (s:Nat),v]
 r:Blk X (W.heap.size+1) 96 cr
 z:Blk X (W.heap.size+2) 98 z
 b:Below W.heap.size W X
structure O4 (W X:World) (t f s:Nat) (v:Value) (cr z:Array Value) (g:Nat) (ty:TypeId) (ci:Array Value):Prop where
 o:O3 W X t f s v cr z
 i:Blk X g ty ci
 g:W.heap.size+3<=g
section
variable {W X Y:World} {t f s:Nat} {v:Value} {cr z ci:Array Value} {g:Nat} {ty:TypeId}
theorem O3.grownR (h:O3 W X t f s v cr z) {row:Option Nat} (hg:X.grownBy Y row) (hr:∀j,row=some j->W.heap.size+3<=j):O3 W Y t f s v cr z:=
 ⟨h.f.grown hg (λe=>by have:=hr _ e.symm;omega),h.r.grown hg (λe=>by have:=hr _ e.symm;omega),h.z.grown hg (λe=>by have:=hr _ e.symm;omega),h.b.grown hg h.b.size (λj e=>by have:=hr j e;omega)⟩
theorem O3.below (h:O3 W X t f s v cr z) (hb:Below X.heap.size X Y):O3 W Y t f s v cr z:=
 ⟨h.f.below hb h.f.lt,h.r.below hb h.r.lt,h.z.below hb h.z.lt,h.b.trans (hb.mono h.b.size)⟩
theorem O3.drew (h:O3 W X t f s v cr z):O3 W X.drew t f s v cr z:=⟨h.f,h.r,h.z,below_drew h.b⟩
theorem O3.row (h:O3 W X t f s v cr z) {cs:Array Value} (hb:Blk Y (W.heap.size+1) 96 cs) (hg:X.grownBy Y (some (W.heap.size+1))):O3 W Y t f s v cs z:=
 ⟨h.f.grown hg (λe=>by injection e with e;omega),hb,h.z.grown hg (λe=>by injection e with e;omega),h.b.grown hg h.b.size (λj e=>by injection e with e;omega)⟩
theorem O3.rowz (h:O3 W X t f s v cr z) {cs:Array Value} (hb:Blk Y (W.heap.size+2) 98 cs) (hg:X.grownBy Y (some (W.heap.size+2))):O3 W Y t f s v cr cs:=
 ⟨h.f.grown hg (λe=>by injection e with e;omega),h.r.grown hg (λe=>by injection e with e;omega),hb,h.b.grown hg h.b.size (λj e=>by injection e with e;omega)⟩
theorem O4.drew (h:O4 W X t f s v cr z g ty ci):O4 W X.drew t f s v cr z g ty ci:=⟨h.o.drew,h.i,h.g⟩
theorem O4.put (h:O4 W X t f s v cr z g ty ci) (k:Nat) (x:Value):O4 W (X.setCell ⟨g,k,none⟩ x) t f s v cr z g ty (ci.setIfInBounds k x):=
 have hg:=h.g
 ⟨⟨h.o.f.far (show W.heap.size≠g by omega) x,h.o.r.far (show W.heap.size+1≠g by omega) x,h.o.z.far (show W.heap.size+2≠g by omega) x,h.o.b.setCell (p:=⟨g,k,none⟩) (by show W.heap.size<=g;omega) x⟩,h.i.put k x,h.g⟩
theorem O3.fresh (h:O3 W X t f s v cr z) {ty':TypeId} {cs cs':Array Value} (hb:Blk Y X.heap.size ty' cs') (hg:(X.alloc (.cells cs ty')).grownBy Y (some X.heap.size)):O4 W Y t f s v cr z X.heap.size ty' cs':=
 have hz:=h.z.lt;have ha:=h.grownR (World.grownBy_alloc X (.cells cs ty') none) (λj e=>by cases e)
 ⟨ha.grownR hg (λj e=>by injection e with e;omega),hb,by omega⟩
theorem o4_start (W:World) (t f s:Nat) (v:Value):∃X,((W.alloc (.cells #[.int .i64 (t:Nat),.int .i64 (f:Nat),.int .i64 (s:Nat),v] 24)).alloc (.cells #[.int .i64 0,.int .i64 0,.int .i64 0,.bool false,.bool false,.bool false,.bool false,.bool false,.bool false,.int .i64 0,.int .i64 0,.int .i64 0,.int .i64 0,.int .i64 0,.int .i64 0,.int .i64 0,.slice none 0 0,.slice none 0 0] 96)).alloc (.cells #[.int .i64 0,.int .i64 0,.int .i64 0,.slice none 0 0] 98)=X/\
 Blk X W.heap.size 24 #[.int .i64 (t:Nat),.int .i64 (f:Nat),.int .i64 (s:Nat),v]/\Blk X (W.heap.size+1) 96 (infC {} (.slice none 0 0) (.slice none 0 0))/\Blk X (W.heap.size+2) 98 (fltR 0 0 0)/\Below W.heap.size W X:=
 ⟨_,rfl,((Blk.new W _ _).alloc _).alloc _,(blk_at (by simp)).alloc _,blk_at (by simp),(((Below.refl _ _).alloc (Nat.le_refl _) _).alloc (by simp) _).alloc (by simp;omega) _⟩
end
theorem load_rowF {a b d:Nat} {g:Nat} {w:World} (h:Blk w g 98 (fltR a b d)):(Instr.loadAt 98 (.pointer (some ⟨g,0,none⟩))).run Tryz.prog w= .ok (.agg (fltR a b d)) w:=
 run_loadAt_row w g _ _ _ h _ Tryz.underlying98 rfl fltSize
theorem flt_let (o:Option (Nat×Nat)):∃z0 z1 z2:Nat,fltO o=fltR z0 z1 z2/\((z0=0/\o=none)\/(z0=99/\o=some (z1,z2))):=by
 cases o with
 |none=>exact⟨0,0,0,rfl,.inl ⟨rfl,rfl⟩⟩
 |some x=>exact⟨99,x.1,x.2,rfl,.inr ⟨rfl,rfl⟩⟩
theorem res23 {fn:Func} (hr:fn.results= #[.cell 2 96,.cell 3 98]) (tmps:Array Value) (w:World) (g g':Nat) (i:Inf) (sv dv:Value) (z:Nat×Nat×Nat) (h6:tmps[2]?=some (.pointer (some ⟨g,0,none⟩))) (h7:tmps[3]?=some (.pointer (some ⟨g',0,none⟩))) (hb:Blk w g 96 (infC i sv dv)) (hz:Blk w g' 98 (fltR z.1 z.2.1 z.2.2)):
 (results fn tmps).run Tryz.prog w= .ok (.tuple #[.agg (infC i sv dv),.agg (fltR z.1 z.2.1 z.2.2)]) w:=by
 have c0:w.cell? ⟨g,0,none⟩=some (.int .i64 (i.typ:Nat)):=hb.cell 0;have c1:w.cell? ⟨g,1,none⟩=some (.int .i64 (i.flags:Nat)):=hb.cell 1;have c2:w.cell? ⟨g,2,none⟩=some (.int .i64 (i.stream:Nat)):=hb.cell 2;have c3:w.cell? ⟨g,3,none⟩=some (.bool i.endd):=hb.cell 3;have c4:w.cell? ⟨g,4,none⟩=some (.bool i.endHeads):=hb.cell 4;have c5:w.cell? ⟨g,5,none⟩=some (.bool i.ack):=hb.cell 5;have c6:w.cell? ⟨g,6,none⟩=some (.bool i.padded):=hb.cell 6;have c7:w.cell? ⟨g,7,none⟩=some (.bool i.prio):=hb.cell 7;have c8:w.cell? ⟨g,8,none⟩=some (.bool i.alone):=hb.cell 8;have c9:w.cell? ⟨g,9,none⟩=some (.int .i64 (i.pad:Nat)):=hb.cell 9;have c10:w.cell? ⟨g,10,none⟩=some (.int .i64 (i.dep:Nat)):=hb.cell 10;have c11:w.cell? ⟨g,11,none⟩=some (.int .i64 (i.weight:Nat)):=hb.cell 11;have c12:w.cell? ⟨g,12,none⟩=some (.int .i64 (i.code:Nat)):=hb.cell 12;have c13:w.cell? ⟨g,13,none⟩=some (.int .i64 (i.last:Nat)):=hb.cell 13;have c14:w.cell? ⟨g,14,none⟩=some (.int .i64 (i.inc:Nat)):=hb.cell 14;have c15:w.cell? ⟨g,15,none⟩=some (.int .i64 (i.promise:Nat)):=hb.cell 15;have c16:w.cell? ⟨g,16,none⟩=some sv:=hb.cell 16;have c17:w.cell? ⟨g,17,none⟩=some dv:=hb.cell 17;have z0:w.cell? ⟨g',0,none⟩=some (.int .i64 (z.1:Nat)):=hz.cell 0;have z1:w.cell? ⟨g',1,none⟩=some (.int .i64 (z.2.1:Nat)):=hz.cell 1;have z2:w.cell? ⟨g',2,none⟩=some (.int .i64 (z.2.2:Nat)):=hz.cell 2;have z3:w.cell? ⟨g',3,none⟩=some (.slice none 0 0):=hz.cell 3;simp[results,hr,go_sem,h6,h7,c0,c1,c2,c3,c4,c5,c6,c7,c8,c9,c10,c11,c12,c13,c14,c15,c16,c17,z0,z1,z2,z3,infC,fltR]
end Go.Proofs.YtkpppjhbmnfmkaaGreatDoor
