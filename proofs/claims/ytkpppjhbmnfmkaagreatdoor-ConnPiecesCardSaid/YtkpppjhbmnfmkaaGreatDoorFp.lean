import Derived.Test.YtkpppjhbmnfmkaaGreatDoorJaf
set_option linter.unusedSimpArgs false
set_option linter.unusedVariables false
set_option maxHeartbeats 4000000
set_option maxRecDepth 100000
namespace Go.Proofs.YtkpppjhbmnfmkaaGreatDoor
open Go.RowKit Go.Own Go.Own.Fr Go.Own.Im
theorem has_any (k fl f b4 b1:Nat) (W:World) (h4:W.cell? ⟨b4,2,none⟩=some (.int .i64 (fl:Nat))) (h1:W.cell? ⟨b1,1,none⟩=some (.int .i64 (f:Nat))) (hk:k<9223372036854775808) (h0:fl<9223372036854775808) (hf:f<9223372036854775808):
 Calls Tryz.prog 146 #[.int .i64 (k:Nat),.pointer (some ⟨b4,0,none⟩),.pointer (some ⟨b1,0,none⟩)] W λe w'=>e= .returned (.bool (fl&&& f&&& k != 0))/\w'=W:=by
 have e1:=and_nat fl f h0 hf;have e2:=and_nat (fl&&& f) k (Nat.lt_of_le_of_lt Nat.and_le_left h0) hk;generalize hx:fl&&& f=x at*
 generalize hy:x&&& k=y at*
 clear hk h0 hf hx hy;go_enter Tryz.func146,Tryz.ntmps146;go_wp2;go_ret;have e3:((y:Int) != 0)=(y != 0):=by
  rcases y with _|y
  · rfl
  · have h1:((y+1:Nat):Int)≠0:=by omega
    have h2:(y+1)≠0:=by omega
    rw[bne_iff_ne.2 h1,bne_iff_ne.2 h2]
 exact⟨congrArg (λb=>Ending.returned (.bool b)) e3,rfl⟩
def OpPost (W:World) (t f s:Nat) (l:List UInt8) (e:Ending) (w':World):Prop:=
 Below W.heap.size W w'/\match opn t f s l with
  | .ok j=>∃sv dv,e= .returned (.tuple #[.agg (infC j sv dv),.nilIface])/\SetO w' W.heap.size sv j.sets/\Ow w' W.heap.size 5 dv j.data.length j.data
  | .error x=>∃a,e= .returned (.tuple #[.agg (infC {} (.slice none 0 0) (.slice none 0 0)),.iface 196 (.pointer (some ⟨a,0,none⟩))])/\W.heap.size<=a/\Blk w' a 199 #[.int .i64 (x.1:Nat),.int .i64 (x.2:Nat)]
theorem results_open (tmps:Array Value) (w:World) (g:Nat) (i:Inf) (sv dv v:Value) (ht:tmps[2]?=some (.pointer (some ⟨g,0,none⟩))) (h3:tmps[3]?=some v) (hb:Blk w g 91 (infC i sv dv)):
 (results Tryz.f104 tmps).run Tryz.prog w= .ok (.tuple #[.agg (infC i sv dv),v]) w:=by
 have c0:w.cell? ⟨g,0,none⟩=some (.int .i64 (i.typ:Nat)):=hb.cell 0;have c1:w.cell? ⟨g,1,none⟩=some (.int .i64 (i.flags:Nat)):=hb.cell 1;have c2:w.cell? ⟨g,2,none⟩=some (.int .i64 (i.stream:Nat)):=hb.cell 2;have c3:w.cell? ⟨g,3,none⟩=some (.bool i.endd):=hb.cell 3;have c4:w.cell? ⟨g,4,none⟩=some (.bool i.endHeads):=hb.cell 4;have c5:w.cell? ⟨g,5,none⟩=some (.bool i.ack):=hb.cell 5;have c6:w.cell? ⟨g,6,none⟩=some (.bool i.padded):=hb.cell 6;have c7:w.cell? ⟨g,7,none⟩=some (.bool i.prio):=hb.cell 7;have c8:w.cell? ⟨g,8,none⟩=some (.bool i.alone):=hb.cell 8;have c9:w.cell? ⟨g,9,none⟩=some (.int .i64 (i.pad:Nat)):=hb.cell 9;have c10:w.cell? ⟨g,10,none⟩=some (.int .i64 (i.dep:Nat)):=hb.cell 10;have c11:w.cell? ⟨g,11,none⟩=some (.int .i64 (i.weight:Nat)):=hb.cell 11;have c12:w.cell? ⟨g,12,none⟩=some (.int .i64 (i.code:Nat)):=hb.cell 12;have c13:w.cell? ⟨g,13,none⟩=some (.int .i64 (i.last:Nat)):=hb.cell 13;have c14:w.cell? ⟨g,14,none⟩=some (.int .i64 (i.inc:Nat)):=hb.cell 14;have c15:w.cell? ⟨g,15,none⟩=some (.int .i64 (i.promise:Nat)):=hb.cell 15;have c16:w.cell? ⟨g,16,none⟩=some sv:=hb.cell 16;have c17:w.cell? ⟨g,17,none⟩=some dv:=hb.cell 17;simp[results,Tryz.results104,go_sem,ht,h3,c0,c1,c2,c3,c4,c5,c6,c7,c8,c9,c10,c11,c12,c13,c14,c15,c16,c17,infC]
end Go.Proofs.YtkpppjhbmnfmkaaGreatDoor
