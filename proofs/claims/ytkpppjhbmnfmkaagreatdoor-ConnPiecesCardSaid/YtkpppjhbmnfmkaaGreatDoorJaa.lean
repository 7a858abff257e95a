/-
  
  
  
  
  
  
  
  
  
  
  
  
  
  
-/
import Derived.WalkKit
import Derived.WalkSpells
import Derived.WalkLawsBesides
import Derived.Lib.Hide
import Derived.Deep.QuietTactic
import Derived.BigQuiet
import Derived.Laws.OwnMore
import Derived.Deep.AppendLies
import Derived.Deep.Draws
import Derived.Maps.AppendAt
import Derived.RegionTactic
import Derived.OwnWalk
import Derived.ChangeMaps4
import Derived.Laws.IdiomStrings
import Derived.Test.YtkpppjhbmnfmkaaGreatDoorRows
import Derived.ProofKit
import Derived.OpenShut
import Derived.LaidMore
import Derived.LaidLaws
import Derived.ChangeSame
import Derived.Deep.DeepHandedRow
import Derived.Lib.LaidU8
import Derived.Handed
import Derived.Shelf.Abstract
import Derived.Laws.AppendOwn
import Derived.KernelRfl
import Derived.Laws.Rows
import Derived.Laws.Tables
import Derived.Laws.World
import Derived.BigFrame
import Derived.Deep.RegionHeld3
import Derived.RangeFuncNested
import Derived.RangeFuncBound
import Derived.RangeFuncCalls
import Derived.RangeFuncLeaves
import Derived.Shelf.RegionOpen
import Derived.OwnWalkIn
import Derived.TacticsInMore
import Derived.LoopNIn
import Derived.LoopIn
import Derived.Lib.OthersKept
import Derived.Lib.IndexAny
import Derived.Lib.IndexBytes
import Derived.Lib.Strings
import Derived.Lib.Walk
import Derived.Test.YtkpppjhbmnfmkaaGreatDoorProg
import Derived.LoopTactic
import Derived.Deep.CutBlock
import Derived.Scope
import Derived.WalkMore
import Derived.Deep.WholeRow
import Derived.Tactics
import Derived.Deep.Slices
set_option linter.unusedSimpArgs false
set_option linter.unusedVariables false
section
namespace Go.Own
open Go.RowKit
def bv (b:UInt8):Value:=.int .u8 (b.toNat:Int)
theorem add_block (a:Addr) (n:Nat):(a.add n).block=a.block:=by unfold Addr.add;split<;>rfl
theorem add_two (a:Addr) (i j:Nat):(a.add i).add j=a.add (i+j):=by
 unfold Addr.add;by_cases hi:i=0<;>by_cases hj:j=0<;>simp[hi,hj,Nat.add_assoc]
def Rd (w:World) (B:Nat) (A:Option Addr) (n:Nat) (l:List UInt8):Prop:=
 l.length=n/\(0<n->∃ad,A=some ad/\ad.block<B/\∀j,j<n->w.cell? (ad.add j)=some (.int .u8 ((l.getD j 0).toNat:Int)))
section
variable {w w':World} {B B' n:Nat} {A:Option Addr} {l:List UInt8}
theorem Rd.at_ {k:Nat} (h:Rd w B A n l) (hk:k<n):∃ad,A=some ad/\ad.block<B/\w.cell? (ad.add k)=some (.int .u8 ((l.getD k 0).toNat:Int)):=by
 obtain⟨ad,e,hb,hc⟩:=h.2 (by omega);exact⟨ad,e,hb,hc k hk⟩
theorem Rd.keep (h:Rd w B A n l) (hk:∀p:Addr,p.block<B->w'.cell? p=w.cell? p):Rd w' B A n l:=
 ⟨h.1,λhn=>by
   obtain⟨ad,e,hb,hc⟩:=h.2 hn;exact⟨ad,e,hb,λj hj=>(hk _ (by rw[add_block];exact hb)).trans (hc j hj)⟩⟩
theorem Rd.more (h:Rd w B A n l) (hB:B<=B'):Rd w B' A n l:=
 ⟨h.1,λhn=>by
   obtain⟨ad,e,hb,hc⟩:=h.2 hn;exact⟨ad,e,by omega,hc⟩⟩
theorem Rd.below (h:Rd w B A n l) (hb:Below B w w'):Rd w' B A n l:=h.keep λ_ hp=>hb.cell hp
theorem Rd.drewN (h:Rd w B A n l) (k:Nat):Rd (w.drewN k) B A n l:=h
theorem Rd.drew (h:Rd w B A n l):Rd w.drew B A n l:=h
theorem Rd.cut (h:Rd w B A n l) {k c:Nat} (hk:k<=n) (hc:n<=c):Rd w B (if c=k then A else A.map (·.add k)) (n-k) (l.drop k):=by
 refine⟨by rw[List.length_drop,h.1],λhn=>?_⟩;obtain⟨ad,rfl,hb,hcell⟩:=h.2 (by omega);rw[if_neg (by omega)];refine⟨ad.add k,rfl,by rw[add_block];exact hb,λj hj=>?_⟩;rw[add_two,hcell (k+j) (by omega)];simp
end
theorem Rd.sub {w:World} {B n c k u:Nat} {A:Option Addr} {l:List UInt8} (h:Rd w B A n l) (hk:k+u<=n) (hc:n<=c):Rd w B (if c=k then A else A.map (·.add k)) u ((l.drop k).take u):=by
 have h0:=h.cut (k:=k) (c:=c) (by omega) hc;refine⟨by rw[List.length_take,h0.1];omega,λhu=>?_⟩;obtain⟨ad,e,hb,hcell⟩:=h0.2 (by omega);refine⟨ad,e,hb,λj hj=>?_⟩;rw[hcell j (by omega)];simp[hj]
theorem Rd.head {w:World} {B n k:Nat} {A:Option Addr} {l:List UInt8} (h:Rd w B A n l) (hk:k<=n):Rd w B A k (l.take k):=by
 refine⟨by rw[List.length_take,h.1];omega,λhu=>?_⟩;obtain⟨ad,e,hb,hcell⟩:=h.2 (by omega);refine⟨ad,e,hb,λj hj=>?_⟩;rw[hcell j (by omega)];simp[hj]
structure ByteP (P:Program) (t e:TypeId):Prop where
 slice:P.underlying t=some (.slice e)
 info:∃i,P.info? e=some i/\i.zero=some (.int .u8 0)/\i.size=1/\i.bytes=1
def Ow (w:World) (base:Nat) (e:TypeId) (v:Value) (n:Nat) (l:List UInt8):Prop:=w.ownsRow base e 1 v n (l.map bv)
section
variable {w w':World} {base n:Nat} {e:TypeId} {v:Value} {l:List UInt8}
theorem Ow.len (h:Ow w base e v n l):l.length=n:=by have:=h.1;simpa using this
theorem Ow.form (h:Ow w base e v n l):∃A cap,v= .slice A n cap/\n<=cap/\cap<=maxLen/\Rd w w.heap.size A n l:=by
 rcases h.2 with⟨rfl,rfl⟩|⟨g,cap,cur,rfl,_,hg,hn,hm,hs,ht⟩
 · exact⟨none,0,rfl,Nat.le_refl _,by simp only[maxLen];omega,h.len,λh0=>absurd h0 (by omega)⟩
 · have h1:g<w.heap.size:=by
    rcases Nat.lt_or_ge g w.heap.size with h1|h2
    · exact h1
    · rw[Array.getElem?_eq_none h2]at hg;cases hg
   refine⟨_,cap,rfl,hn,hm,h.len,λ_=>⟨_,rfl,h1,λj hj=>?_⟩⟩;have hl:=h.len;have hc:=World.ownsRow.cellAt (w:=w) (base:=base) (e:=e) (size:=1) (g:=g) (n:=n) (cap:=cap) (xs:=l.map bv) h j (by omega);rw[Addr.add_lit,Nat.zero_add,hc];simp[List.getD,bv,show j<l.length by omega]
theorem Ow.rd {A:Option Addr} {cap:Nat} (h:Ow w base e (.slice A n cap) n l):Rd w w.heap.size A n l:=by
 obtain⟨A',cap',hv,_,_,hr⟩:=h.form;injection hv with h1 h2 h3
 subst h1;exact hr
theorem Ow.grown {row:Option Nat} (h:Ow w base e v n l) (hg:w.grownBy w' row) (hne:v.ownBlock=none\/v.ownBlock≠row):Ow w' base e v n l:=by
 rcases h.2 with⟨rfl,rfl⟩|⟨g,cap,cur,rfl,hb,hh,hn,hm,hs,ht⟩
 · exact⟨h.1,.inl ⟨rfl,rfl⟩⟩
 · have h0:g<w.heap.size:=by
    rcases Nat.lt_or_ge g w.heap.size with h0|h1
    · exact h0
    · rw[Array.getElem?_eq_none h1]at hh;cases hh
   refine⟨h.1,.inr ⟨g,cap,cur,rfl,hb,?_,hn,hm,hs,ht⟩⟩;rw[hg.block g h0 (by
    rcases hne with hne|hne
    · simp[Value.ownBlock]at hne
    · exact hne)]
   exact hh
theorem Ow.below {B:Nat} (h:Ow w base e v n l) (hb:Below B w w') (hv:∀g,v.ownBlock=some g->g<B):Ow w' base e v n l:=by
 rcases h.2 with⟨rfl,rfl⟩|⟨g,cap,cur,rfl,h0,hh,hn,hm,hs,ht⟩
 · exact⟨h.1,.inl ⟨rfl,rfl⟩⟩
 · exact⟨h.1,.inr ⟨g,cap,cur,rfl,h0,(hb.block g (hv g rfl)).trans hh,hn,hm,hs,ht⟩⟩
theorem Ow.lt (h:Ow w base e v n l) {g:Nat} (hv:v.ownBlock=some g):g<w.heap.size/\base<=g:=by
 rcases h.2 with⟨rfl,rfl⟩|⟨g',cap,cur,rfl,h0,hh,hn,hm,hs,ht⟩
 · simp[Value.ownBlock]at hv
 · have:g'=g:=by simpa [Value.ownBlock]using hv
   subst this;refine⟨?_,h0⟩;rcases Nat.lt_or_ge g' w.heap.size with h1|h2
   · exact h1
   · rw[Array.getElem?_eq_none h2]at hh;cases hh
end
theorem Ow.base {w:World} {base base' n:Nat} {e:TypeId} {v:Value} {l:List UInt8} (h:Ow w base e v n l) (hb:base'<=base):Ow w base' e v n l:=by
 rcases h.2 with⟨rfl,rfl⟩|⟨g,cap,cur,rfl,h0,hh,hn,hm,hs,ht⟩
 · exact⟨h.1,.inl ⟨rfl,rfl⟩⟩
 · exact⟨h.1,.inr ⟨g,cap,cur,rfl,Nat.le_trans hb h0,hh,hn,hm,hs,ht⟩⟩
theorem bv_one {l:List UInt8}:∀u∈l.map bv,u.oneCell'=true:=by
 intro u hu;obtain⟨b,_,rfl⟩:=List.mem_map.1 hu
 rfl
theorem Rd.cells {w:World} {B m:Nat} {ad:Addr} {l:List UInt8} (h:Rd w B (some ad) m l):∀j u,(l.map bv)[j]?=some u->w.cell? (ad.add j)=some u:=by
 intro j u hu;have hj:j<l.length:=by have:=(List.getElem?_eq_some_iff.1 hu).1;simpa using this
 obtain⟨ad',e,_,hc⟩:=h.2 (by have:=h.1;omega);injection e with e
 subst e;rw[hc j (by have:=h.1;omega)];rw[<-hu];simp[bv,List.getD,hj]
section
variable {P:Program} (w:World)
theorem run_app_nil {t e:TypeId} (hP:ByteP P t e) (ty:TypeId) (base:Nat) (v:Value) (n:Nat) (l:List UInt8) (h0:Ow w base e v n l) (c:Nat):
 (Builtin.append_ #[t,t] ty #[v,.slice none 0 c]).run P w= .ok v w:=by
 obtain⟨i,hi,hz,h1,h2⟩:=hP.info;rcases h0.2 with⟨rfl,rfl⟩|⟨g,cap,cur,rfl,_,_,h3,_⟩
 · simp[Builtin.append_,run_underlying hP.slice,sizeOf,typeInfo,hi,Builtin.lenOf,Builtin.firstCells]
 · simp[Builtin.append_,run_underlying hP.slice,sizeOf,typeInfo,hi,Builtin.lenOf,Builtin.firstCells,h3,storeCells]
theorem Rd.none_zero {w:World} {B m:Nat} {l:List UInt8} (h:Rd w B none m l):m=0/\l=[]:=by
 have hm:m=0:=by
  rcases Nat.eq_zero_or_pos m with h0|h0
  · exact h0
  · obtain⟨ad,hh,_⟩:=h.2 h0
    cases hh
 exact⟨hm,List.eq_nil_of_length_eq_zero (by rw[h.1,hm])⟩
theorem run_app_fits {t e:TypeId} (hP:ByteP P t e) (ty:TypeId) (base g k cap:Nat) (xs:List UInt8) (h0:Ow w base e (.slice (some ⟨g,0,none⟩) k cap) k xs)
 (B:Nat) (A:Option Addr) (m c:Nat) (l:List UInt8) (hr:Rd w B A m l) (b1:k+m<=cap):
 ∃w',(Builtin.append_ #[t,t] ty #[.slice (some ⟨g,0,none⟩) k cap,.slice A m c]).run P w= .ok (.slice (some ⟨g,0,none⟩) (k+m) cap) w'/\
  Ow w' base e (.slice (some ⟨g,0,none⟩) (k+m) cap) (k+m) (xs++l)/\w.grownBy w' (some g):=by
 obtain⟨i,hi,hz,h1,h2⟩:=hP.info;rcases A with _|ad
 · obtain⟨rfl,rfl⟩:=hr.none_zero
   exact⟨w,run_app_nil w hP ty base _ k xs h0 c,by simpa using h0,World.grownBy.refl w _⟩
 · obtain⟨w',h3,r1,r2⟩:=run_append_fits (P:=P) w base t ty e i 1 hP.slice hi h1 g k cap (xs.map bv) h0 ad m c (l.map bv) (by simpa using hr.1) hr.cells bv_one b1
   exact⟨w',h3,by unfold Ow;rw[List.map_append];exact r1,r2⟩
theorem run_app_any {t e:TypeId} (hP:ByteP P t e) (ty:TypeId) (base:Nat) (v:Value) (n:Nat) (xs:List UInt8) (h0:Ow w base e v n xs)
 (B:Nat) (A:Option Addr) (m c:Nat) (l:List UInt8) (hr:Rd w B A m l) (hb:n+m<=140737488355328) (h3:base<=w.heap.size):
 ∃v' w',(Builtin.append_ #[t,t] ty #[v,.slice A m c]).run P w= .ok v' w'/\Ow w' base e v' (n+m) (xs++l)/\w.grownBy w' v.ownBlock/\
  (v'.ownBlock=v.ownBlock\/v'.ownBlock=some w.heap.size):=by
 obtain⟨i,hi,hz,h1,h2⟩:=hP.info;rcases A with _|ad
 · obtain⟨rfl,rfl⟩:=hr.none_zero
   exact⟨v,w,run_app_nil w hP ty base v n xs h0 c,by simpa using h0,World.grownBy.refl w _,.inl rfl⟩
 · obtain⟨v',w',h4,r1,r2,_,r4⟩:=run_append_own_at (P:=P) w base t ty e i (.int .u8 0) 1 1 hP.slice hi hz h1 h2 rfl (by omega) v n (xs.map bv) h0 ad m c (l.map bv) (by simpa using hr.1) hr.cells bv_one (by simp only[maxLen];omega) (by omega) h3
   exact⟨v',w',h4,by unfold Ow;rw[List.map_append];exact r1,r2,r4⟩
variable {ops:Array Oper} {rest:List Oper} {o:Oper} {a:Act} {Q:Exit->Act->World->Prop}
theorem wpList_app_fits {t e:TypeId} (hP:ByteP P t e) (hgd:o.guard=none) (s x:Operand) (ho:o.op= .call {callee:=.builtin .append,args:=#[s,x],argTypes:=#[t,t]})
 (base g k cap:Nat) (xs:List UInt8) (hs:a.eval s= .slice (some ⟨g,0,none⟩) k cap) (h0:Ow w base e (.slice (some ⟨g,0,none⟩) k cap) k xs)
 (B:Nat) (A:Option Addr) (m c:Nat) (l:List UInt8) (hx:a.eval x= .slice A m c) (hr:Rd w B A m l) (b1:k+m<=cap)
 (h:∀w',Ow w' base e (.slice (some ⟨g,0,none⟩) (k+m) cap) (k+m) (xs++l)->w.grownBy w' (some g)->wpList P ops Q rest (a.put o.dst (.slice (some ⟨g,0,none⟩) (k+m) cap)) w'):
 wpList P ops Q (o::rest) a w:=by
 refine wpList_plain hgd λK hK=>?_;obtain⟨w',h1,r1,r2⟩:=run_app_fits (P:=P) w hP o.type base g k cap xs h0 B A m c l hr b1;unfold Oper.wp execOp;simp only[ho,resolve,invoke,builtin,Sem.run_bind,Sem.run_pure,Result.andThen_ok,List.map_toArray,List.map_cons,List.map_nil,hs,hx,h1];exact hK _ _ (h w' r1 r2)
theorem wpList_app_any {t e:TypeId} (hP:ByteP P t e) (hgd:o.guard=none) (s x:Operand) (ho:o.op= .call {callee:=.builtin .append,args:=#[s,x],argTypes:=#[t,t]})
 (base:Nat) (v:Value) (n:Nat) (xs:List UInt8) (hs:a.eval s=v) (h3:Ow w base e v n xs)
 (B:Nat) (A:Option Addr) (m c:Nat) (l:List UInt8) (hx:a.eval x= .slice A m c) (hr:Rd w B A m l) (hb:n+m<=140737488355328) (h0:base<=w.heap.size)
 (h:∀A' cap' w',Ow w' base e (.slice A' (n+m) cap') (n+m) (xs++l)->w.grownBy w' v.ownBlock->((Value.slice A' (n+m) cap').ownBlock=v.ownBlock\/(Value.slice A' (n+m) cap').ownBlock=some w.heap.size)->n+m<=cap'->cap'<=maxLen->wpList P ops Q rest (a.put o.dst (.slice A' (n+m) cap')) w'):
 wpList P ops Q (o::rest) a w:=by
 refine wpList_plain hgd λK hK=>?_;obtain⟨v',w',h4,r1,r2,r3⟩:=run_app_any (P:=P) w hP o.type base v n xs h3 B A m c l hr hb h0;obtain⟨A',cap',rfl,h1,h2,_⟩:=r1.form;unfold Oper.wp execOp;simp only[ho,resolve,invoke,builtin,Sem.run_bind,Sem.run_pure,Result.andThen_ok,List.map_toArray,List.map_cons,List.map_nil,hs,hx,h4];exact hK _ _ (h A' cap' w' r1 r2 r3 h1 h2)
theorem wpList_mk {t e:TypeId} (hP:ByteP P t e) (hgd:o.guard=none) (l c:Operand) (hop:o.op=Op.makeSlice t l c) (base:Nat)
 (kl kc:IntKind) (C:Int) (n:Nat) (hl:a.eval l= .int kl 0) (hc:a.eval c= .int kc C) (hC:C=(n:Int)) (b2:n<=281474976710656) (b4:base<=w.heap.size)
 (hK:∀w',Ow w' base e (.slice (some ⟨w.heap.size,0,none⟩) 0 n) 0 []->w.grownBy w' none->wpList P ops Q rest (a.put o.dst (.slice (some ⟨w.heap.size,0,none⟩) 0 n)) w'):
 wpList P ops Q (o::rest) a w:=by
 obtain⟨i,hi,hz,h1,h2⟩:=hP.info;exact wpList_make_own (P:=P) w hgd l c t hop base e i _ 1 hP.slice hi hz h1 kl kc C n hl hc hC (by rw[h2];omega) (by simp only[maxLen];omega) b4 hK
end
theorem Rd.one (w:World) (v:Int) (b:UInt8) (e:TypeId) (hv:v=(b.toNat:Int)):Rd (w.alloc (.cells #[.int .u8 v] e)) (w.heap.size+1) (some ⟨w.heap.size,0,none⟩) 1 [b]:=by
 refine⟨rfl,λ_=>⟨_,rfl,Nat.lt_succ_self _,λj hj=>?_⟩⟩;obtain rfl:j=0:=by omega
 subst hv;rw[Addr.add_lit];simp
theorem Ow.alloc {w:World} {base n:Nat} {e:TypeId} {v:Value} {l:List UInt8} (h:Ow w base e v n l) (o:Obj):Ow (w.alloc o) base e v n l:=
 h.grown (World.grownBy_alloc w o none) (by cases hv:v.ownBlock<;>simp)
theorem Rd.alloc {w:World} {B:Nat} {A:Option Addr} {n:Nat} {l:List UInt8} (h:Rd w B A n l) (hB:B<=w.heap.size) (o:Obj):Rd (w.alloc o) B A n l:=h.keep λp hp=>World.cell?_alloc_lt w o p (by omega)
theorem Rd.grown {w w':World} {B:Nat} {A:Option Addr} {n:Nat} {l:List UInt8} (h:Rd w B A n l) {row:Option Nat} (hg:w.grownBy w' row) (hB:B<=w.heap.size) (hr:∀g,row=some g->B<=g):Rd w' B A n l:=
 h.keep λp hp=>World.cell?_of_block (hg.block p.block (by omega) (λe=>by have:=hr _ e.symm;omega))
section
variable {P:Program} (w:World)
variable {ops:Array Oper} {rest:List Oper} {o:Oper} {a:Act} {Q:Exit->Act->World->Prop}
theorem run_mkMap {P:Program} (t:TypeId) (w:World):(Instr.makeMap t none).run P w= .ok (.map (some w.heap.size)) (w.alloc (.map #[] 0)):=rfl
end
theorem run_from {P:Program} {t e:TypeId} (hP:ByteP P t e) (A:Option Addr) (n c k:Nat) (hk:k<=n) (_:n<=c) (W:World):
 (Instr.slice t (.slice A n c) (some (.int .i64 (k:Int))) none none).run P W= .ok (.slice (if c=k then A else A.map λx=>x.add k) (n-k) (c-k)) W:=by
 obtain⟨i,hi,hz,h1,h2⟩:=hP.info;simp[Instr.slice,run_underlying hP.slice,Instr.sliceBounds,run_sliceBound,sizeOf,typeInfo,hi,h1,Result.andThen,show(k:Int)<=n by omega]
theorem cut_from {P:Program} {t e:TypeId} (hP:ByteP P t e) {w:World} {B n c k:Nat} {A:Option Addr} {l:List UInt8} (h:Rd w B A n l) (x:Int) (hx:x=(k:Int)) (hk:k<=n) (hc:n<=c):
 ∃A',Rd w B A' (n-k) (l.drop k)/\∀W:World,(Instr.slice t (.slice A n c) (some (.int .i64 x)) none none).run P W= .ok (.slice A' (n-k) (c-k)) W:=
 ⟨_,h.cut hk hc,λW=>by rw[hx];exact run_from hP A n c k hk hc W⟩
theorem run_str {P:Program} {w:World} {B n c:Nat} {A:Option Addr} {l:List UInt8} (src dst e:TypeId) (hs:P.underlying src=some (.slice e)) (he:P.underlying e=some (.int .u8)) (hd:P.underlying dst=some .string) (h:Rd w B A n l):
 (convert src dst (.slice A n c)).run P w= .ok (.string ⟨l.toArray⟩) w:=by
 rcases A with _|ad
 · obtain⟨rfl,rfl⟩:=h.none_zero
   rw[run_convert_bytes_string w src dst e _ 0 c hs he hd];simp[Conv.bytesToString]
   rfl
 · have hl:=h.1
   subst hl;refine run_convert_bytes_back (P:=P) w src dst e ad c l hs he hd λj hj=>?_;obtain⟨ad',e',_,hc⟩:=h.2 (by omega);injection e' with e'
   subst e';rw[hc j hj];simp[List.getD,hj]
def Blk (w:World) (g:Nat) (t:TypeId) (cs:Array Value):Prop:=w.heap[g]?=some (.cells cs t (0,0))
section
variable {w w':World} {g:Nat} {t:TypeId} {cs:Array Value}
theorem Blk.lt (h:Blk w g t cs):g<w.heap.size:=by
 rcases Nat.lt_or_ge g w.heap.size with h0|h1
 · exact h0
 · unfold Blk at h;rw[Array.getElem?_eq_none h1]at h;cases h
theorem Blk.cell (h:Blk w g t cs) (i:Nat):w.cell? ⟨g,i,none⟩=cs[i]?:=cell_of_row w g i cs t (0,0) h
theorem Blk.frozen (h:Blk w g t cs) (i:Nat):w.frozen? ⟨g,i,none⟩=false:=by
 unfold Blk at h;simp[World.frozen?,h]
theorem Blk.new (w:World) (t:TypeId) (cs:Array Value):Blk (w.alloc (.cells cs t)) w.heap.size t cs:=heap_alloc_new w _
theorem Blk.drewN (h:Blk w g t cs) (n:Nat):Blk (w.drewN n) g t cs:=h
theorem Blk.alloc (h:Blk w g t cs) (o:Obj):Blk (w.alloc o) g t cs:=(Below.heap_alloc w o g h.lt).trans h
theorem Blk.put (h:Blk w g t cs) (i:Nat) (u:Value):Blk (w.setCell ⟨g,i,none⟩ u) g t (cs.setIfInBounds i u):=by
 unfold Blk at h ⊢;simp[World.setCell,Array.getElem?_modify,h]
theorem Blk.far (h:Blk w g t cs) {p:Addr} (hp:g≠p.block) (u:Value):Blk (w.setCell p u) g t cs:=(Below.heap_setCell w p u g hp).trans h
theorem Blk.below {B:Nat} (h:Blk w g t cs) (hb:Below B w w') (hg:g<B):Blk w' g t cs:=(hb.block g hg).trans h
theorem Blk.grown {row:Option Nat} (h:Blk w g t cs) (hb:w.grownBy w' row) (hg:some g≠row):Blk w' g t cs:=(hb.block g h.lt hg).trans h
end
theorem grown_drewN {a w:World} {row:Option Nat} (h:a.grownBy w row) (n:Nat):a.grownBy (w.drewN n) row:=⟨h.os,h.tape,h.output,h.size,h.block⟩
theorem bdN {B:Nat} {a w:World} (h:Below B a w) (n:Nat):Below B a (w.drewN n):=⟨h.os,h.tape,h.output,h.size,h.block⟩
theorem below_of_drew {B:Nat} {a w:World} (h:Below B a.drew w):Below B a w:=⟨h.os,h.tape,h.output,h.size,h.block⟩
theorem grown_of_below {a w:World} (h:Below a.heap.size a w) (row:Option Nat):a.grownBy w row:=⟨h.os,h.tape,h.output,h.size,λi hi _=>h.block i hi⟩
theorem grown_trans {a b c:World} {row:Option Nat} (h:a.grownBy b row) (k:b.grownBy c row):a.grownBy c row:=
 ⟨k.os.trans h.os,k.tape.trans h.tape,k.output.trans h.output,Nat.le_trans h.size k.size,λi hi hn=>(k.block i (Nat.lt_of_lt_of_le hi h.size) hn).trans (h.block i hi hn)⟩
theorem grown_setCell {a w:World} {g:Nat} (h:a.grownBy w (some g)) (i:Nat) (u:Value):a.grownBy (w.setCell ⟨g,i,none⟩ u) (some g):=
 ⟨h.os,h.tape,h.output,by simpa [World.setCell]using h.size,λj hj hne=>(Below.heap_setCell w ⟨g,i,none⟩ u j (λe=>hne (by rw[e]))).trans (h.block j hj hne)⟩
theorem grown_alloc {a w:World} {row:Option Nat} (h:a.grownBy w row) (o:Obj):a.grownBy (w.alloc o) row:=
 ⟨h.os,h.tape,h.output,Nat.le_trans h.size (by simp),λi hi hne=>(Below.heap_alloc w o i (Nat.lt_of_lt_of_le hi h.size)).trans (h.block i hi hne)⟩
end Go.Own
end

section
namespace Go.Own
open Go.RowKit Go.WideShapes Go.ChangeShapes
theorem laidVars_mem {P:Program} {w:World}:∀{l:List (String×DataW Unit)} {ps:List MemPlace},DataW.LaidVars P w l ps->∀{n:String} {d:DataW Unit},(n,d)∈l->
 ∃g t cs fuel p,P.globalNamed n=some g/\(P.globals[g]?).map (·.type)=some t/\w.var? P n=some cs/\DataW.trod (λ_=>()) P w 0 (λ_=>true) false fuel t cs.toList=some (d,p)/\
  ∀x∈MemPlace.row ⟨g,0,none⟩ cs.size++p,x∈ps
 |[],_,_,_,_,hm=>by cases hm
 |(n0,d0)::r,ps,h,n,d,hm=>by
  obtain⟨g,t,cs,fuel,p,q,hg,ht,hv,hd,hr,rfl⟩:=h;rcases List.mem_cons.1 hm with e|hm
  · injection e with e1 e2
    subst e1 e2;exact⟨g,t,cs,fuel,p,hg,ht,hv,hd,λx hx=>List.mem_append_left _ hx⟩
  · obtain⟨g',t',cs',fuel',p',h1,h2,h3,h4,h5⟩:=laidVars_mem hr hm
    exact⟨g',t',cs',fuel',p',h1,h2,h3,h4,λx hx=>List.mem_append_right _ (h5 x hx)⟩
theorem sentinel_cell {P:Program} {W:World} {l:List (String×DataW Unit)} {n:String} {text:List UInt8} {g ti tp te ts:Nat} {ms:Array (String×TypeId)} {f:Field} (h:laidMet P l W)
 (hm:(n,DataW.iface "*errors.errorString" (.ptr (.agg [.lit (.string text)])))∈l) (hg:P.globalNamed n=some g) (ht:(P.globals[g]?).map (·.type)=some ti)
 (hi:P.underlying ti=some (.interface ms)) (h1:∀u,P.typeName? 3 u=some "*errors.errorString" ->u=tp)
 (hp:P.underlying tp=some (.pointer te)) (he:P.underlying te=some (.struct #[f])) (h4:f.type=ts) (h5:f.offset=0) (hs:P.underlying ts=some .string) (hc:P.cellsOf te=1) (h6:P.cellsOf ts=1):
 ∃a,W.cell? ⟨g,0,none⟩=some (.iface tp (.pointer (some a))):=by
 obtain⟨ps,hl,_,h0⟩:=h;obtain⟨g',t,cs,fuel,p,h7,h8,hv,hd,h9⟩:=laidVars_mem hl hm;obtain rfl:=Option.some.inj (hg.symm.trans h7);obtain rfl:=Option.some.inj (ht.symm.trans h8);obtain⟨lc⟩:=cs;have ok:∀u v,lc=[.iface u v]->Value.okWide P W .any 0 u v:=λu v e=>by
  subst e;exact(h0 g 0 (h9 _ (by simp[MemPlace.row]))).2 u v (by simpa using World.var?_cell hg hv 0)
 obtain⟨a,s,h2,_,_,_,_⟩:=errorString_of_trod hi h1 hp he h4 h5 hs hc h6 hd ok;refine⟨a,?_⟩;have:=World.var?_cell hg hv 0;have h3:lc=[.iface tp (.pointer (some a))]:=h2;rw[this,h3]
 rfl
section
variable {H:Type} {enc:TypeId×Value->H} {P:Program}
end
theorem returnsHanded_shaped {H:Type} {enc:TypeId×Value->H} {a:Assume} {C:Checked} {os:Os} {f:FuncId} {fn:Func} {s:ChangeSpec} {conds:List PathCond} {apart fresh h0 again:Bool} {X:World->Array Value->Prop}
 (hX:∀(w w':World) (args:Array Value),w.heap=w'.heap->X w args->X w' args)
 (own:ownKnob C.prog.godebug=none) (started:os.Started) (noInit:C.prog.inits.idxOf? f=none) (h5:C.prog.funcs[f]?=some fn)
 (witness:∃(w:World) (tape:Tape) (i:Input),w.os=os/\(w.forCall tape i).Shaped C.prog/\i.vars=[]/\Input.okWide C.prog (w.forCall tape i) .any w.heap.size f i/\
   ((s.pre enc C.prog fn conds apart (w.forCall tape i).memory i.args/\X (w.forCall tape i).memory i.args)/\sizedMet enc C.prog fn (OpenSpec.ofChange s) apart (w.forCall tape i).memory i.args)/\a.holds C.prog (lone (Frame.enter C.prog f i.args .normal) [] (w.forCall tape i)))
 (contract:∀(W:World) (base:Nat) (args:Array Value) (ds gs:List (DataW H)) (before:List MemPlace),
   (∀(j:Nat) t v,fn.params[j]?=some t->args[j]?=some v->Value.okWide C.prog W .any base t v)->
   DataW.Whole enc C.prog fn.params.toList s.vars apart W args.toList ds gs before->
   (DataW.weightsEach C.prog (fn.params.toList++s.plain.varTypes C.prog) (ds++gs)).all (·<=reachBytes)=true->X W args->W.ShapedOpen C.prog->
   Calls C.prog f args W λe W'=>∃v,e= .returned v/\s.post enc C.prog fn apart fresh h0 again W args v W'):
 ReturnsInHanded a C os f .any (λw args=>(s.pre enc C.prog fn conds apart w args/\X w args)/\sizedMet enc C.prog fn (OpenSpec.ofChange s) apart w args) (s.post enc C.prog fn apart fresh h0 again):=by
 refine returnsInHanded_of_calls own started noInit witness ?_;intro w tape i _ h6 _ h7 h1 h4;obtain⟨_,_,_,fn',h2,_,_,_,_,h3⟩:=h7;have e:fn'=fn:=Option.some.inj (h2.symm.trans h5);subst e;obtain⟨⟨⟨ds,gs,before,hw,hc⟩,hx⟩,hz⟩:=h1;have h8:=DataW.Whole.of_heap (w':=w.forCall tape i) (by rfl) hw;refine(contract (w.forCall tape i) w.heap.size i.args ds gs before h3 h8 (hz.weights hw) (hX _ _ _ (by rfl) hx) h6).mono λe W' ⟨v,he,hp⟩=>?_;subst he;exact ChangeSpec.post_blind hp
end Go.Own
namespace Go.Proofs.YtkpppjhbmnfmkaaGreatDoor
open Go.RowKit Go.Own
theorem knob:ownKnob Tryz.prog.godebug=none:=by kernel_rfl
theorem star: "*" ++ "errors.errorString" = "*errors.errorString" :=by decide
theorem rowErr (u:TypeId) (h:Tryz.prog.typeName? 3 u=some "*errors.errorString"):u=327:=
 typeName_ptr_named (nm:= "errors.errorString") (by rw[star];kernel_rfl) (by kernel_rfl) (by decide) u (by rw[star];exact h)
theorem cellsErr:Tryz.prog.cellsOf 329=1:=by kernel_rfl
theorem cellsStr:Tryz.prog.cellsOf 9=1:=by kernel_rfl
theorem sent {W:World} {l:List (String×DataW Unit)} {n:String} {text:List UInt8} {g:Nat} (h:laidMet Tryz.prog l W)
 (hm:(n,DataW.iface "*errors.errorString" (.ptr (.agg [.lit (.string text)])))∈l) (hg:Tryz.prog.globalNamed n=some g) (ht:(Tryz.prog.globals[g]?).map (·.type)=some 28):
 ∃a,W.cell? ⟨g,0,none⟩=some (.iface 327 (.pointer (some a))):=
 sentinel_cell h hm hg ht Tryz.underlying28 rowErr Tryz.underlying327 Tryz.underlying329 rfl rfl Tryz.underlying9 cellsErr cellsStr
end Go.Proofs.YtkpppjhbmnfmkaaGreatDoor
end

section
namespace Go.Own.Cm
open Go Go.RowKit Go.Own
def RS {α:Type} (f:α->Array Value) (k:Nat) (w:World) (B:Nat) (A:Option Addr) (n:Nat) (l:List α):Prop:=
 l.length=n/\∀(j:Nat) (x:α),l[j]?=some x->∃ad,A=some ad/\ad.block<B/\ad.block<w.heap.size/\w.cell? (ad.add (j*k))=(f x)[0]?/\
  ∀(i:Nat) (v:Value),1<=i->(f x)[i]?=some v->w.cell? ⟨(ad.add (j*k)).block,(ad.add (j*k)).off+i,none⟩=some v
section
variable {α:Type} {f:α->Array Value} {k:Nat} {w w':World} {B:Nat} {A:Option Addr} {n:Nat} {l:List α}
theorem cell_same {ad:Addr} (h:w'.heap[ad.block]?=w.heap[ad.block]?):w'.cell? ad=w.cell? ad:=by
 unfold World.cell?;rw[h]
theorem RS.keep (h:RS f k w B A n l) (hs:w.heap.size<=w'.heap.size) (hk:∀ad,A=some ad->ad.block<B->ad.block<w.heap.size->w'.heap[ad.block]?=w.heap[ad.block]?):RS f k w' B A n l:=
 ⟨h.1,λj x hx=>by
   obtain⟨ad,e,hb,hw,h0,h1⟩:=h.2 j x hx;have hh:=hk ad e hb hw;refine⟨ad,e,hb,Nat.lt_of_lt_of_le hw hs,?_,λi v hi hv=>?_⟩
   · rw[<-h0];exact cell_same (by rw[add_block];exact hh)
   · rw[<-h1 i v hi hv]
     exact cell_same (by show w'.heap[(ad.add (j*k)).block]?=w.heap[(ad.add (j*k)).block]?;rw[add_block];exact hh)⟩
theorem RS.below (h:RS f k w B A n l) (hb:Below B w w'):RS f k w' B A n l:=h.keep hb.size λ_ _ h1 _=>hb.block _ h1
theorem RS.more {B':Nat} (h:RS f k w B A n l) (hB:B<=B'):RS f k w B' A n l:=⟨h.1,λj x hx=>by
 obtain⟨ad,e,hb,r⟩:=h.2 j x hx;exact⟨ad,e,Nat.lt_of_lt_of_le hb hB,r⟩⟩
theorem RS.at2 (h:RS f k w B A n l) {j:Nat} (hj:j<n):∃ad x,A=some ad/\l[j]?=some x/\w.cell? (ad.add (j*k))=(f x)[0]?/\∀(i:Nat) (v:Value),1<=i->(f x)[i]?=some v->w.cell? ⟨(ad.add (j*k)).block,(ad.add (j*k)).off+i,none⟩=some v:=by
 have h2:j<l.length:=by rw[h.1];exact hj
 obtain⟨ad,e,_,_,h0,h1⟩:=h.2 j l[j] (List.getElem?_eq_getElem h2);exact⟨ad,l[j],e,List.getElem?_eq_getElem h2,h0,h1⟩
theorem RS.nil:RS f k w B none 0 []:=⟨rfl,λj x hx=>by simp at hx⟩
end
section
variable {α:Type} {f:α->Array Value} {k:Nat}
def flat (f:α->Array Value) (l:List α):List Value:=l.flatMap λx=>(f x).toList
theorem flat_append (a b:List α):flat f (a++b)=flat f a++flat f b:=by simp[flat]
theorem flat_len (hk:∀x,(f x).size=k) (l:List α):(flat f l).length=l.length*k:=by
 induction l with
 |nil=>simp[flat]
 |cons x l ih=>
  have h:=hk x;simp[flat]at ih ⊢;rw[ih,h,Nat.add_mul];omega
theorem flat_at (hk:∀x,(f x).size=k) (l:List α) (j i:Nat) (hi:i<k):(flat f l)[j*k+i]?=(l[j]?).bind λx=>(f x)[i]?:=by
 induction l generalizing j with
 |nil=>simp[flat]
 |cons x l ih=>
  have e:flat f (x::l)=(f x).toList++flat f l:=by simp[flat]
  have hx:(f x).toList.length=k:=by simpa using hk x
  rw[e];cases j with
  |zero=>
   rw[List.getElem?_append_left (by rw[hx];omega)];simp
  |succ j=>
   rw[List.getElem?_append_right (by rw[hx,Nat.add_mul];omega),hx,show(j+1)*k+i-k=j*k+i by rw[Nat.add_mul];omega,ih j];simp
theorem flat_one (h1:∀x,∀u∈(f x).toList,u.oneCell'=true) (l:List α):∀u∈flat f l,u.oneCell'=true:=by
 intro u hu;simp only[flat,List.mem_flatMap]at hu;obtain⟨x,_,hx⟩:=hu;exact h1 x u hx
theorem RS.flatc {w:World} {B:Nat} {A:Option Addr} {n:Nat} {l:List α} (h:RS f k w B A n l) (hk:∀x,(f x).size=k) (j:Nat) (u:Value) (hu:(flat f l)[j]?=some u):
 ∃ad,A=some ad/\ad.block<w.heap.size/\w.cell? (ad.add j)=some u:=by
 have hj:=(List.getElem?_eq_some_iff.1 hu).1;rw[flat_len hk]at hj;have h3:0<k:=by
  rcases Nat.eq_zero_or_pos k with h0|h0
  · rw[h0]at hj;omega
  · exact h0
 have hd:j/k*k+j % k=j:=by rw[Nat.mul_comm];exact Nat.div_add_mod j k
 have hm:=Nat.mod_lt j h3;have h2:j/k<l.length:=Nat.div_lt_of_lt_mul (by rw[Nat.mul_comm];exact hj);have e:=flat_at hk l (j/k) (j % k) hm;rw[hd,hu,List.getElem?_eq_getElem h2]at e;obtain⟨ad,eA,_,h4,h0,h1⟩:=h.2 (j/k) l[j/k] (List.getElem?_eq_getElem h2);refine⟨ad,eA,h4,?_⟩;have e':(f l[j/k])[j % k]?=some u:=e.symm;by_cases hz:j % k=0
 · rw[hz]at e' hd
   rw[<-e',<-h0]
   congr 2
   omega
 · rw[<-h1 (j % k) u (by omega) e']
   have:(⟨(ad.add (j/k*k)).block,(ad.add (j/k*k)).off+j % k,none⟩:Addr)=ad.add (j/k*k+j % k):=by
    rw[<-add_two];show _=Addr.add _ _
    conv=>rhs;unfold Addr.add
    rw[if_neg hz]
    rfl
   rw[this,hd]
theorem RS.of_flat {w:World} {B:Nat} {ad:Addr} {n:Nat} {l:List α} (hn:l.length=n) (hk:∀x,(f x).size=k) (h1:0<k) (hB:ad.block<B) (hw:ad.block<w.heap.size)
 (h:∀(j:Nat) (u:Value),(flat f l)[j]?=some u->w.cell? (ad.add j)=some u):RS f k w B (some ad) n l:=
 ⟨hn,λj x hx=>by
   refine⟨ad,rfl,hB,hw,?_,λi v hi hv=>?_⟩
   · have e:=flat_at hk l j 0 h1
     rw[hx]at e;have h0:(f x)[0]?=some ((f x)[0]'(by rw[hk x];exact h1)):=Array.getElem?_eq_getElem _;have e':(Cm.flat f l)[j*k]?=(f x)[0]?:=e;rw[h0]at e' ⊢;exact h _ _ e'
   · have h2:i<k:=by rw[<-hk x];exact(Array.getElem?_eq_some_iff.1 hv).1
     have e:=flat_at hk l j i h2;rw[hx]at e;have e':(Cm.flat f l)[j*k+i]?=some v:=e.trans hv;have:(⟨(ad.add (j*k)).block,(ad.add (j*k)).off+i,none⟩:Addr)=ad.add (j*k+i):=by
      rw[<-add_two];show _=Addr.add _ _
      conv=>rhs;unfold Addr.add
      rw[if_neg (by omega)]
      rfl
     rw[this];exact h _ _ e'⟩
def Ew (f:α->Array Value) (e:TypeId) (k:Nat) (w:World) (base:Nat) (v:Value) (l:List α):Prop:=w.ownsRow base e k v l.length (flat f l)
variable {e:TypeId} {w w':World} {base:Nat} {v:Value} {l:List α}
theorem Ew.form (h:Ew f e k w base v l):∃A c,v= .slice A l.length c/\l.length<=c/\c<=maxLen:=by
 rcases h.2 with⟨rfl,h0⟩|⟨g,cap,cur,rfl,hb,hg,hn,hm,_⟩
 · exact⟨none,0,by rw[h0],by omega,by simp[maxLen]⟩
 · exact⟨_,cap,rfl,hn,hm⟩
theorem Ew.lt (h:Ew f e k w base v l):∀g,v.ownBlock=some g->base<=g/\g<w.heap.size:=World.ownsRow.lt h
theorem Ew.grown {row:Option Nat} (h:Ew f e k w base v l) (hg:w.grownBy w' row) (hne:v.ownBlock=none\/v.ownBlock≠row):Ew f e k w' base v l:=World.ownsRow.kept h hg hne
theorem own_or (v:Value):v.ownBlock=none\/v.ownBlock≠none:=by cases v.ownBlock<;>simp
theorem Ew.below (h:Ew f e k w base v l) (hb:Below w.heap.size w w'):Ew f e k w' base v l:=h.grown (grown_of_below hb none) (own_or v)
theorem Ew.nil (f:α->Array Value) (e:TypeId) (k:Nat) (w:World) (base:Nat):Ew f e k w base (.slice none 0 0) []:=⟨by simp[flat],.inl ⟨rfl,rfl⟩⟩
theorem Ew.from {n c:Nat} {A:Option Addr} (h:Ew f e k w base (.slice A n c) l):∀ad,A=some ad->base<=ad.block:=by
 rcases h.2 with⟨e,_⟩|⟨g,cap,cur,e,hb,_⟩
 · injection e with e1 _ _
   subst e1;intro ad e;cases e
 · injection e with e1 _ _
   subst e1;intro ad e;cases e;exact hb
theorem RS.setCell {B n:Nat} {A:Option Addr} (h:RS f k w B A n l) {p:Addr} (hp:∀ad,A=some ad->ad.block≠p.block) (u:Value):RS f k (w.setCell p u) B A n l:=
 h.keep (by simp[World.setCell]) λad e _ _=>Below.heap_setCell w p u _ (hp ad e)
theorem Ew.rs {n c:Nat} {A:Option Addr} (h:Ew f e k w base (.slice A n c) l) (hk:∀x,(f x).size=k) (hk0:0<k):RS f k w w.heap.size A n l:=by
 have hn:l.length=n:=by
  obtain⟨A',c',e,_⟩:=h.form;injection e with _ e _
  exact e.symm
 rcases h.2 with⟨e,h0⟩|⟨g,cap,cur,e,_⟩
 · have:l=[]:=List.eq_nil_of_length_eq_zero h0
   subst this;injection e with e1 _ _
   subst e1;obtain rfl:n=0:=by simpa using hn.symm
   exact RS.nil
 · have e':=e
   injection e' with e1 _ _
   subst e1;exact RS.of_flat hn hk hk0 (World.ownsRow.lt h g rfl).2 (World.ownsRow.lt h g rfl).2 λj u hu=>World.ownsRow.cells h (g:=g) rfl j u hu
theorem Ew.lit (f:α->Array Value) (e:TypeId) (hk:∀x,(f x).size=k) (w:World) (l:List α) (hl:l.length<=1000):Ew f e k (w.alloc (.cells (flat f l).toArray e)) w.heap.size (.slice (some ⟨w.heap.size,0,none⟩) l.length l.length) l:=
 World.ownsRow_lit w (flat f l).toArray l.length (Nat.le_refl _) (by simp only[maxLen];omega) (by rw[List.size_toArray,flat_len hk])
end
structure ElP (P:Program) {α:Type} (f:α->Array Value) (t e:TypeId) (k bytes:Nat):Prop where
 slice:P.underlying t=some (.slice e)
 info:∃i z,P.info? e=some i/\i.zero=some z/\i.size=k/\i.bytes=bytes/\z.cells.size=k
 size:∀x,(f x).size=k
 one:∀x,∀u∈(f x).toList,u.oneCell'=true
 pos:0<k
 few:bytes<=1000
section
variable {P:Program} {α:Type} {f:α->Array Value} {t e:TypeId} {k bytes:Nat}
theorem run_app_e (hP:ElP P f t e k bytes) (w:World) (ty:TypeId) (base:Nat) (v:Value) (l0:List α) (h4:Ew f e k w base v l0) (B:Nat) (A:Option Addr) (n c:Nat) (l:List α) (hr:RS f k w B A n l) (hb:l0.length+n<=1000000) (hbase:base<=w.heap.size):
 ∃v' w',(Builtin.append_ #[t,t] ty #[v,.slice A n c]).run P w= .ok v' w'/\Ew f e k w' base v' (l0++l)/\w.grownBy w' v.ownBlock/\(v'.ownBlock=v.ownBlock\/v'.ownBlock=some w.heap.size):=by
 obtain⟨i,z,hi,hz,h1,h2,h3⟩:=hP.info;rcases Nat.eq_zero_or_pos n with h0|h0
 · subst h0
   have hl:l=[]:=List.eq_nil_of_length_eq_zero hr.1;subst hl;refine⟨v,w,?_,by simpa using h4,World.grownBy.refl w _,.inl rfl⟩;rcases h4.2 with⟨rfl,h0⟩|⟨g,cap,cur,rfl,_,_,h7,_⟩
   · rcases A with _|ad<;>simp[Builtin.append_,run_underlying hP.slice,sizeOf,typeInfo,hi,Builtin.lenOf,Builtin.firstCells,loadCells,loadCellsFrom]
   · rcases A with _|ad<;>simp[Builtin.append_,run_underlying hP.slice,sizeOf,typeInfo,hi,Builtin.lenOf,Builtin.firstCells,h7,storeCells,loadCells,loadCellsFrom]
 · have h8:0<l.length:=by rw[hr.1];exact h0
   obtain⟨ad,rfl,_⟩:=hr.2 0 l[0] (List.getElem?_eq_getElem h8);have h5:=hP.few;obtain⟨v',w',h6,r1,r2,_,r4⟩:=run_append_own_at (P:=P) w base t ty e i z k bytes hP.slice hi hz h1 h2 h3 hP.pos v l0.length (flat f l0) h4 ad n c (flat f l) (by rw[flat_len hP.size,hr.1]) (λj u hu=>by
    obtain⟨ad',e,_,h⟩:=hr.flatc hP.size j u hu;obtain rfl:=Option.some.inj e;exact h) (flat_one hP.one l) (by simp only[maxLen];omega) (by
     have:(l0.length+n)*bytes<=1000000*1000:=Nat.mul_le_mul hb h5;omega) hbase
   refine⟨v',w',h6,?_,r2,r4⟩;unfold Ew;rw[flat_append,List.length_append,hr.1];exact r1
variable {ops:Array Oper} {rest:List Oper} {o:Oper} {a:Act} {Q:Exit->Act->World->Prop}
theorem wpList_app_e (hP:ElP P f t e k bytes) (w:World) (hgd:o.guard=none) (s x:Operand) (ho:o.op= .call {callee:=.builtin .append,args:=#[s,x],argTypes:=#[t,t]})
 (base:Nat) (v:Value) (l0:List α) (hs:a.eval s=v) (h2:Ew f e k w base v l0) (B:Nat) (A:Option Addr) (n c:Nat) (l:List α) (hx:a.eval x= .slice A n c) (hr:RS f k w B A n l) (hb:l0.length+n<=1000000) (h1:base<=w.heap.size)
 (h:∀A' c' w',Ew f e k w' base (.slice A' (l0.length+n) c') (l0++l)->w.grownBy w' v.ownBlock->((Value.slice A' (l0.length+n) c').ownBlock=v.ownBlock\/(Value.slice A' (l0.length+n) c').ownBlock=some w.heap.size)->wpList P ops Q rest (a.put o.dst (.slice A' (l0.length+n) c')) w'):wpList P ops Q (o::rest) a w:=by
 refine wpList_plain hgd λK hK=>?_;obtain⟨v',w',h0,r1,r2,r3⟩:=run_app_e hP w o.type base v l0 h2 B A n c l hr hb h1;obtain⟨A',c',rfl,_⟩:=r1.form;rw[List.length_append,hr.1]at h0 r1 r3;unfold Oper.wp execOp;simp only[ho,resolve,invoke,builtin,Sem.run_bind,Sem.run_pure,Result.andThen_ok,List.map_toArray,List.map_cons,List.map_nil,hs,hx,h0];exact hK _ _ (h A' c' w' r1 r2 r3)
theorem step_app_e {K:Act->World->Prop} {E:Prop} (hP:ElP P f t e k bytes) (w:World) (h3:o.guard=none) (s x:Operand) (ho:o.op= .call {callee:=.builtin .append,args:=#[s,x],argTypes:=#[t,t]})
 (base:Nat) (v:Value) (l0:List α) (hs:a.eval s=v) (h2:Ew f e k w base v l0) (B:Nat) (A:Option Addr) (n c:Nat) (l:List α) (hx:a.eval x= .slice A n c) (hr:RS f k w B A n l) (hb:l0.length+n<=1000000) (h1:base<=w.heap.size)
 (h:∀A' c' w',Ew f e k w' base (.slice A' (l0.length+n) c') (l0++l)->w.grownBy w' v.ownBlock->((Value.slice A' (l0.length+n) c').ownBlock=v.ownBlock\/(Value.slice A' (l0.length+n) c').ownBlock=some w.heap.size)->K (a.put o.dst (.slice A' (l0.length+n) c')) w'):
 if Region.wanted o (yielded ops a.tmps)=true then Oper.wp P o a w K Q else E:=by
 have hw:Region.wanted o (yielded ops a.tmps)=true:=by simp[Region.wanted,h3]
 rw[if_pos hw];obtain⟨v',w',h0,r1,r2,r3⟩:=run_app_e hP w o.type base v l0 h2 B A n c l hr hb h1;obtain⟨A',c',rfl,_⟩:=r1.form;rw[List.length_append,hr.1]at h0 r1 r3;unfold Oper.wp execOp;simp only[ho,resolve,invoke,builtin,Sem.run_bind,Sem.run_pure,Result.andThen_ok,List.map_toArray,List.map_cons,List.map_nil,hs,hx,h0];exact h A' c' w' r1 r2 r3
end
end Go.Own.Cm
end

section
namespace Go.Own.Hf
def szL:List Nat:=[13,23,28,28,28,28,28,28,28,24,30,28,28,30,28,28,28,28,28,28,28,28,30,28,28,28,28,28,28,28,28,28,6,10,10,12,13,6,8,11,10,10,8,11,8,6,6,6,5,5,5,6,6,6,6,6,6,6,7,8,15,6,12,10,13,6,7,7,7,7,7,7,7,7,7,7,7,7,7,7,7,7,7,7,7,7,7,7,8,7,8,13,19,13,14,6,15,5,6,5,6,5,6,6,6,5,7,7,6,6,6,5,6,7,6,5,5,6,7,7,7,7,7,15,11,14,13,28,20,22,20,20,22,22,22,23,22,23,23,23,23,23,24,23,24,24,22,23,24,23,23,23,23,21,22,23,22,23,23,24,22,21,20,22,22,23,23,21,23,22,22,24,21,22,23,23,21,21,22,21,23,22,23,23,20,22,22,22,23,22,22,23,26,26,20,19,22,23,22,25,26,26,26,27,27,26,24,25,19,21,26,27,27,26,27,24,21,21,26,26,28,27,27,27,20,24,20,21,22,21,21,23,22,22,25,25,24,24,26,23,26,27,26,26,27,27,27,27,27,28,27,27,27,27,27,26,30]
def cdL:List Nat:=[8184,8388568,268435426,268435427,268435428,268435429,268435430,268435431,268435432,16777194,1073741820,268435433,268435434,1073741821,268435435,268435436,268435437,268435438,268435439,268435440,268435441,268435442,1073741822,268435443,268435444,268435445,268435446,268435447,268435448,268435449,268435450,268435451,20,1016,1017,4090,8185,21,248,2042,1018,1019,249,2043,250,22,23,24,0,1,2,25,26,27,28,29,30,31,92,251,32764,32,4091,1020,8186,33,93,94,95,96,97,98,99,100,101,102,103,104,105,106,107,108,109,110,111,112,113,114,252,115,253,8187,524272,8188,16380,34,32765,3,35,4,36,5,37,38,39,6,116,117,40,41,42,7,43,118,44,8,9,45,119,120,121,122,123,32766,2044,16381,8189,268435452,1048550,4194258,1048551,1048552,4194259,4194260,4194261,8388569,4194262,8388570,8388571,8388572,8388573,8388574,16777195,8388575,16777196,16777197,4194263,8388576,16777198,8388577,8388578,8388579,8388580,2097116,4194264,8388581,4194265,8388582,8388583,16777199,4194266,2097117,1048553,4194267,4194268,8388584,8388585,2097118,8388586,4194269,4194270,16777200,2097119,4194271,8388587,8388588,2097120,2097121,4194272,2097122,8388589,4194273,8388590,8388591,1048554,4194274,4194275,4194276,8388592,4194277,4194278,8388593,67108832,67108833,1048555,524273,4194279,8388594,4194280,33554412,67108834,67108835,67108836,134217694,134217695,67108837,16777201,33554413,524274,2097123,67108838,134217696,134217697,67108839,134217698,16777202,2097124,2097125,67108840,67108841,268435453,134217699,134217700,134217701,1048556,16777203,1048557,2097126,4194281,2097127,2097128,8388595,4194282,4194283,33554414,33554415,16777204,16777205,67108842,8388596,67108843,134217702,67108844,67108845,134217703,134217704,134217705,134217706,134217707,268435454,134217708,134217709,134217710,134217711,134217712,67108846,1073741823]
def sz (s:Nat):Nat:=szL.getD s 0
def cd (s:Nat):Nat:=cdL.getD s 0
def grL:List (Nat×List Nat):=[(0,[]),(0,[]),(0,[]),(0,[]),(0,[]),(0,[48,49,50,97,99,101,105,111,115,116]),(20,[32,37,45,46,47,51,52,53,54,55,56,57,61,65,95,98,100,102,103,104,108,109,110,112,114,117]),(92,[58,66,67,68,69,70,71,72,73,74,75,76,77,78,79,80,81,82,83,84,85,86,87,89,106,107,113,118,119,120,121,122]),(248,[38,42,44,59,88,90]),(0,[]),(1016,[33,34,40,41,63]),(2042,[39,43,124]),(4090,[35,62]),(8184,[0,36,64,91,93,126]),(16380,[94,125]),(32764,[60,96,123]),(0,[]),(0,[]),(0,[]),(524272,[92,195,208]),(1048550,[128,130,131,162,184,194,224,226]),(2097116,[153,161,167,172,176,177,179,209,216,217,227,229,230]),(4194258,[129,132,133,134,136,146,154,156,160,163,164,169,170,173,178,181,185,186,187,189,190,196,198,228,232,233]),(8388568,[1,135,137,138,139,140,141,143,147,149,150,151,152,155,157,158,165,166,168,174,175,180,182,183,188,191,197,231,239]),(16777194,[9,142,144,145,148,159,171,206,215,225,236,237]),(33554412,[199,207,234,235]),(67108832,[192,193,200,201,202,205,210,213,218,219,238,240,242,243,255]),(134217694,[203,204,211,212,214,221,222,223,241,244,245,246,247,248,250,251,252,253,254]),(268435426,[2,3,4,5,6,7,8,11,12,14,15,16,17,18,19,20,21,23,24,25,26,27,28,29,30,31,127,220,249]),(0,[]),(1073741820,[10,13,22,256])]
def gr (n:Nat):Nat×List Nat:=grL.getD n (0,[])
def look (c n:Nat):Option Nat:=bif Nat.ble (gr n).1 c then(gr n).2[c-(gr n).1]? else none
def bl:Nat->Nat->List Bool
 |0,_=>[]
 |n+1,c=>c.testBit n::bl n c
def dec:Nat->Nat->List Bool->Option (List Nat)
 |c,n,[]=>bif Nat.blt n 8&&Nat.beq c (2^n-1)then some []else none
 |c,n,b::bs=>
  match look (2*c+b.toNat) (n+1)with
  |some s=>bif Nat.beq s 256 then none else(dec 0 0 bs).map (s::·)
  |none=>bif Nat.blt (n+1) 30 then dec (2*c+b.toNat) (n+1) bs else none
theorem look_of_list:(List.range 257).all (λs=>(look (cd s) (sz s)==some s))=true:=by kernel_rfl
theorem look_of {s:Nat} (hs:s<257):look (cd s) (sz s)=some s:=by
 have:=List.all_eq_true.1 look_of_list s (List.mem_range.2 hs)
 simpa using this
theorem gr_list:(List.range 31).all (λn=>(List.range (gr n).2.length).all λj=>Nat.blt ((gr n).2.getD j 0) 257&&Nat.beq (cd ((gr n).2.getD j 0)) ((gr n).1+j)&&Nat.beq (sz ((gr n).2.getD j 0)) n)=true:=by kernel_rfl
theorem gr_big {n:Nat} (h:31<=n):(gr n).2=[]:=by
 have:grL[n]?=none:=List.getElem?_eq_none (by simpa [grL]using h);simp[gr,List.getD,this]
theorem look_is {c n s:Nat} (h:look c n=some s):s<257/\cd s=c/\sz s=n:=by
 unfold look at h;cases hb:Nat.ble (gr n).1 c with
 |false=>rw[hb]at h;cases h
 |true=>
  rw[hb]at h;have h0:(gr n).1<=c:=Nat.le_of_ble_eq_true hb;have h:(gr n).2[c-(gr n).1]?=some s:=h;have hn:n<31:=by
   rcases Nat.lt_or_ge n 31 with h1|h1
   · exact h1
   · rw[gr_big h1]at h;cases h
  have hj:=(List.getElem?_eq_some_iff.1 h).1;have h2:=List.all_eq_true.1 (List.all_eq_true.1 gr_list n (List.mem_range.2 hn)) (c-(gr n).1) (List.mem_range.2 hj);have e:(gr n).2.getD (c-(gr n).1) 0=s:=by rw[List.getD,h];rfl
  simp only[e,Bool.and_eq_true]at h2;refine⟨Nat.lt_of_lt_of_eq (Nat.lt_of_lt_of_le (Nat.lt_succ_of_le (Nat.le_refl s)) (Nat.le_of_ble_eq_true h2.1.1)) rfl,?_,Nat.eq_of_beq_eq_true h2.2⟩;have:=Nat.eq_of_beq_eq_true h2.1.2;omega
def bb (x:UInt8):List Bool:=bl 8 x.toNat
def unpack (l:List UInt8):List Bool:=l.flatMap bb
end Go.Own.Hf
end

section
namespace Go.Own
open Go Go.RowKit
section
variable {P:Program}
theorem run_storeAt_row (w:World) (g:Nat) (t ty:TypeId) (old cells:Array Value) (hb:Blk w g t old) (hi:(P.info? ty).map (·.size)=some cells.size) (ho:old.size=cells.size) (h1:cells.all (·.oneCell')=true):
 (Instr.storeAt ty (.pointer (some ⟨g,0,none⟩)) (.agg cells)).run P w= .ok () (w.setRow g cells):=by
 simp only[Instr.storeAt,Instr.sureAddr,Sem.run_bind,Sem.run_pure,Result.andThen];exact run_storeVar_row w g t ty old cells hb hi ho h1
theorem Blk.row {w:World} {g:Nat} {t:TypeId} {old:Array Value} (hb:Blk w g t old) (cells:Array Value):Blk (w.setRow g cells) g t cells:=by
 unfold Blk at hb ⊢;simp[World.setRow,Array.getElem?_modify,hb]
theorem grown_row {w:World} {g:Nat} (cells:Array Value):w.grownBy (w.setRow g cells) (some g):=
 ⟨rfl,rfl,rfl,by simp[World.setRow],λi _ hne=>by
   have h:¬g=i:=λe=>hne (by rw[e]);simp[World.setRow,Array.getElem?_modify,h]⟩
variable {ops:Array Oper} {rest:List Oper} {o:Oper} {a:Act} {Q:Exit->Act->World->Prop}
theorem wpList_rowPut (w:World) (hg:o.guard=none) (p x:Operand) (ty:TypeId) (hop:o.op=Op.store ty p x) (g:Nat) (t:TypeId) (old cells:Array Value) (hp:a.eval p= .pointer (some ⟨g,0,none⟩)) (hx:a.eval x= .agg cells)
 (hb:Blk w g t old) (hi:(P.info? ty).map (·.size)=some cells.size) (ho:old.size=cells.size) (h1:cells.all (·.oneCell')=true)
 (hK:∀w',Blk w' g t cells->w.grownBy w' (some g)->wpList P ops Q rest (a.put o.dst undef) w'):wpList P ops Q (o::rest) a w:=by
 refine wpList_plain hg λK' h2=>?_;have h0:=run_storeAt_row (P:=P) w g t ty old cells hb hi ho h1;unfold Oper.wp;simp[execOp,hop,hp,hx,h0,Result.andThen];exact h2 _ _ (hK _ (hb.row cells) (grown_row cells))
theorem run_loadAt_row (w:World) (g:Nat) (t ty:TypeId) (cells:Array Value) (hb:Blk w g t cells) (d:TypeDesc) (hu:P.underlying ty=some d) (hd:(match d with| .struct _| .array _ _=>true|_=>false)=true) (hi:(P.info? ty).map (·.size)=some cells.size):
 (Instr.loadAt ty (.pointer (some ⟨g,0,none⟩))).run P w= .ok (.agg cells) w:=by
 simp only[Instr.loadAt,Instr.sureAddr,Sem.run_bind,Sem.run_pure,Result.andThen];exact run_loadVar_row w g t ty cells (0,0) d hb hu hd hi
theorem wpList_rowGet (w:World) (hg:o.guard=none) (p:Operand) (ty:TypeId) (hop:o.op=Op.load ty p) (g:Nat) (t:TypeId) (cells:Array Value) (hp:a.eval p= .pointer (some ⟨g,0,none⟩)) (hb:Blk w g t cells) (d:TypeDesc) (hu:P.underlying ty=some d)
 (hd:(match d with| .struct _| .array _ _=>true|_=>false)=true) (hi:(P.info? ty).map (·.size)=some cells.size) (hK:wpList P ops Q rest (a.put o.dst (.agg cells)) w):wpList P ops Q (o::rest) a w:=by
 refine wpList_plain hg λK' h1=>?_;have h0:=run_loadAt_row (P:=P) w g t ty cells hb d hu hd hi;unfold Oper.wp;simp[execOp,hop,hp,h0,Result.andThen];exact h1 _ _ hK
end
end Go.Own
end

section
namespace Go.Own
open Go Go.RowKit
section
variable {P:Program} {ops:Array Oper} {rest:List Oper} {o:Oper} {a:Act} {Q:Exit->Act->World->Prop}
theorem wpList_rowGetW (w:World) (hw:Region.wanted o (yielded ops a.tmps)=true) (p:Operand) (ty:TypeId) (hop:o.op=Op.load ty p) (g:Nat) (t:TypeId) (cells:Array Value) (hp:a.eval p= .pointer (some ⟨g,0,none⟩)) (hb:Blk w g t cells) (d:TypeDesc) (hu:P.underlying ty=some d)
 (hd:(match d with| .struct _| .array _ _=>true|_=>false)=true) (hi:(P.info? ty).map (·.size)=some cells.size) (hK:wpList P ops Q rest (a.put o.dst (.agg cells)) w):wpList P ops Q (o::rest) a w:=by
 refine BigFrame.wpList_want hw λK' h1=>?_;have h0:=run_loadAt_row (P:=P) w g t ty cells hb d hu hd hi;unfold Oper.wp;simp[execOp,hop,hp,h0,Result.andThen];exact h1 _ _ hK
end
end Go.Own
end

section
namespace Go.Proofs.YtkpppjhbmnfmkaaGreatDoor
section
variable {P:Program} {ops:Array Oper} {Q:Exit->Act->World->Prop} {md:Region.Mode} {S:World->Prop}
theorem tk_at {ops:Array Oper} {i:Nat} {o:Oper} {rest:List Oper} (h:ops.toList.drop i=o::rest):ops[i]?=some o:=by
 rw[<-Array.getElem?_toList,show ops.toList[i]?=(ops.toList.drop i)[0]? by rw[List.getElem?_drop];rfl,h]
 rfl
theorem tk {fuel:Nat} {listed l':Array Bool} {a a':Act} {w:World} {oi:Oper} {rest:List Oper} {v:Value} (i:Nat)
 (h:wpAnyH P md ops Q S fuel l' a' w)
 (hS:S w:=by exact hHeld) (hi:ops.toList.drop i=oi::rest:=by rfl)
 (hw:Region.wanted oi (yielded ops a.tmps)=true:=by rfl)
 (hy:∀w,S w->(execOp a.eval oi).run P w= .ok (.value v) w:=by intro w h0;(try dsimp only at h0);(try go_split_ands);go_simp;(first|done|with_reducible rfl))
 (ha:a.put oi.dst v=a':=by(try simp only[Act.put,List.setIfInBounds_toArray,List.set_cons_zero,List.set_cons_succ]);exact rfl)
 (hl:listed.setIfInBounds i true=l':=by(try simp only[List.setIfInBounds_toArray,List.set_cons_zero,List.set_cons_succ]);exact rfl)
 (hs:Region.noSelect ops=true:=by kernel_rfl) (hf:Region.free md ops listed i=true:=by kernel_rfl) (hr:(Region.ready md ops listed).contains i=true:=by kernel_rfl)
 (hQ:∀c a w,Q (.panic c) (a.put oi.dst v) w->Q (.panic c) a w:=by exactλ_ _ _ h=>h):
 wpAnyH P md ops Q S (fuel+1) listed a w:=by
 subst ha hl;exact wpAnyH_take (tk_at hi) hs hf hr hQ (Or.inl ⟨hw,hy⟩) hS h
theorem tk0 {fuel:Nat} {listed l':Array Bool} {a a':Act} {w:World} {oi:Oper} {rest:List Oper} (i:Nat)
 (h:wpAnyH P md ops Q S fuel l' a' w)
 (hS:S w:=by exact hHeld) (hi:ops.toList.drop i=oi::rest:=by rfl)
 (hw:Region.wanted oi (yielded ops a.tmps)=false:=by rfl)
 (ha:a.put oi.dst undef=a':=by(try simp only[Act.put,List.setIfInBounds_toArray,List.set_cons_zero,List.set_cons_succ]);exact rfl)
 (hl:listed.setIfInBounds i true=l':=by(try simp only[List.setIfInBounds_toArray,List.set_cons_zero,List.set_cons_succ]);exact rfl)
 (hs:Region.noSelect ops=true:=by kernel_rfl) (hf:Region.free md ops listed i=true:=by kernel_rfl) (hr:(Region.ready md ops listed).contains i=true:=by kernel_rfl)
 (hQ:∀c a w,Q (.panic c) (a.put oi.dst undef) w->Q (.panic c) a w:=by exactλ_ _ _ h=>h):
 wpAnyH P md ops Q S (fuel+1) listed a w:=by
 subst ha hl;exact wpAnyH_take (tk_at hi) hs hf hr hQ (Or.inr ⟨hw,rfl⟩) hS h
theorem tkr {fuel:Nat} {listed l':Array Bool} {a:Act} {w:World} {o:Oper} {rest:List Oper} (i:Nat)
 (h:∀K':Act->World->Prop,Shut (∀a w,S w->(S w->wpAnyH P md ops Q S fuel l' a w)->K' a w)->if Region.wanted o (yielded ops a.tmps)=true then Oper.wp P o a w K' Q else K' (a.put o.dst undef) w)
 (ho:ops.toList.drop i=o::rest:=by rfl)
 (hl:listed.setIfInBounds i true=l':=by(try simp only[List.setIfInBounds_toArray,List.set_cons_zero,List.set_cons_succ]);exact rfl)
 (hr:Region.ready md ops listed=[i]:=by kernel_rfl):
 wpAnyH P md ops Q S (fuel+1) listed a w:=by
 subst hl;exact wpAnyH_ready hr (by simp) (AllReadyH.cons (tk_at ho) h AllReadyH.nil)
theorem tkr2 {fuel:Nat} {listed l1 l2:Array Bool} {a:Act} {w:World} {o1 o2:Oper} {rest1 rest2:List Oper} (i j:Nat)
 (h1:∀K':Act->World->Prop,Shut (∀a w,S w->(S w->wpAnyH P md ops Q S fuel l1 a w)->K' a w)->if Region.wanted o1 (yielded ops a.tmps)=true then Oper.wp P o1 a w K' Q else K' (a.put o1.dst undef) w)
 (h2:∀K':Act->World->Prop,Shut (∀a w,S w->(S w->wpAnyH P md ops Q S fuel l2 a w)->K' a w)->if Region.wanted o2 (yielded ops a.tmps)=true then Oper.wp P o2 a w K' Q else K' (a.put o2.dst undef) w)
 (ho1:ops.toList.drop i=o1::rest1:=by rfl) (ho2:ops.toList.drop j=o2::rest2:=by rfl)
 (hl1:listed.setIfInBounds i true=l1:=by(try simp only[List.setIfInBounds_toArray,List.set_cons_zero,List.set_cons_succ]);exact rfl)
 (hl2:listed.setIfInBounds j true=l2:=by(try simp only[List.setIfInBounds_toArray,List.set_cons_zero,List.set_cons_succ]);exact rfl)
 (hr:Region.ready md ops listed=[i,j]:=by kernel_rfl):
 wpAnyH P md ops Q S (fuel+1) listed a w:=by
 subst hl1 hl2;exact wpAnyH_ready hr (by simp) (AllReadyH.cons (tk_at ho1) h1 (AllReadyH.cons (tk_at ho2) h2 AllReadyH.nil))
end
end Go.Proofs.YtkpppjhbmnfmkaaGreatDoor
end

section
namespace Go.Own.Rng
open Go Go.RowKit Go.Shelf
variable {P:Program}
structure InLoop (Z:World) (C:LoopState->Option Code->Loop) (st:LoopState) (pe:Option Code) (W:World):Prop where
 below:Below Z.heap.size Z W
 mark:W.heap[Z.heap.size]?=some (.deferred (some []))
 entry:W.heap[Z.heap.size+1]?=some (.loop (C st pe))
 size:Z.heap.size+2<=W.heap.size
end Go.Own.Rng
end

section
namespace Go.Own.Fn
open Go Go.RowKit Go.Own Go.Proofs
variable {σ X Y:Type}
structure Stt (σ:Type) where
 row:Option Nat
 St:σ->World->Prop
structure Lvl (X Y:Type) where
 RX:World->Value->X->Prop
 RY:World->Value->Y->Prop
structure Kx (ex:Nat->Prop) (w w':World):Prop where
 os:w'.os=w.os
 tape:w'.tape=w.tape
 output:w'.output=w.output
 size:w.heap.size<=w'.heap.size
 block:∀i,i<w.heap.size->¬ex i->w'.heap[i]?=w.heap[i]?
section
variable {ex ex':Nat->Prop} {a b c w w':World}
theorem Kx.refl (ex:Nat->Prop) (w:World):Kx ex w w:=⟨rfl,rfl,rfl,Nat.le_refl _,λ_ _ _=>rfl⟩
theorem Kx.trans (h:Kx ex a b) (k:Kx ex b c):Kx ex a c:=
 ⟨k.os.trans h.os,k.tape.trans h.tape,k.output.trans h.output,Nat.le_trans h.size k.size,λi hi hn=>(k.block i (Nat.lt_of_lt_of_le hi h.size) hn).trans (h.block i hi hn)⟩
theorem Kx.grown {row:Option Nat} (h:w.grownBy w' row) (hr:∀g,row=some g->ex g):Kx ex w w':=
 ⟨h.os,h.tape,h.output,h.size,λi hi hn=>h.block i hi (λe=>hn (hr i e.symm))⟩
theorem Kx.below (h:Below w.heap.size w w'):Kx ex w w':=⟨h.os,h.tape,h.output,h.size,λi hi _=>h.block i hi⟩
theorem Kx.more (h:Kx ex w w') (hx:∀i,i<w.heap.size->ex i->ex' i):Kx ex' w w':=⟨h.os,h.tape,h.output,h.size,λi hi hn=>h.block i hi λhe=>hn (hx i hi he)⟩
theorem Kx.put {g:Nat} {t:TypeId} {cs:Array Value} (_hb:Blk w g t cs) (hg:ex g) (k:Nat) (v:Value):Kx ex w (w.setCell ⟨g,k,none⟩ v):=
 Kx.grown (grown_setCell (World.grownBy.refl w (some g)) k v) λi e=>by injection e with e;exact e▸hg
theorem Kx.putObj {g:Nat} (hg:ex g) (o:Obj) (hs:g<w.heap.size):Kx ex w (w.putObj g o):=
 ⟨rfl,rfl,rfl,by rw[World.putObj_size];exact Nat.le_refl _,λi _ hn=>World.putObj_heap_other (by rintro rfl;exact hn hg)⟩
theorem Blk.kx {g:Nat} {t:TypeId} {cs:Array Value} (hb:Blk w g t cs) (h:Kx ex w w') (hg:¬ex g):Blk w' g t cs:=(h.block g hb.lt hg).trans hb
end
def Fnc (P:Program) (S:Stt σ) (L:Lvl X Y) (ex:Nat->Prop) (v:Value) (F:X->σ->Y×σ) (w0:World):Prop:=
 ∃(K:Nat) (first cap:Array Value),v= .func (.func K) first cap/\Enters P K/\∀(w:World) (s:σ) (xv:Value) (x:X),Kx ex w0 w->S.St s w->L.RX w xv x->
  Calls P K (first.push xv++cap) w λe w'=>∃yv,e= .returned yv/\L.RY w' yv (F x s).1/\S.St (F x s).2 w'/\w.grownBy w' S.row
def Arnd (P:Program) (S:Stt σ) (L L':Lvl X Y) (ex:Nat->Prop) (v:Value) (A:(X->σ->Y×σ)->X->σ->Y×σ) (w0:World):Prop:=
 ∃(K:Nat) (first cap:Array Value),v= .func (.func K) first cap/\Enters P K/\∀(w:World) (s:σ) (xv:Value) (x:X) (nv:Value) (F:X->σ->Y×σ) (exF:Nat->Prop),(∀g,S.row=some g->exF g)->Kx ex w0 w->Fnc P S L' exF nv F w->S.St s w->L.RX w xv x->
  Calls P K (first++(#[xv,nv]++cap)) w λe w'=>∃yv,e= .returned yv/\L.RY w' yv (A F x s).1/\S.St (A F x s).2 w'/\w.grownBy w' S.row
section
variable {P:Program} {S:Stt σ} {L L':Lvl X Y} {ex ex':Nat->Prop} {v:Value} {F:X->σ->Y×σ} {A:(X->σ->Y×σ)->X->σ->Y×σ} {w w':World}
theorem Fnc.kx (h:Fnc P S L ex v F w) (hg:Kx ex w w'):Fnc P S L ex v F w':=by
 obtain⟨K,first,cap,e,hE,hc⟩:=h;exact⟨K,first,cap,e,hE,λw s xv x hw=>hc w s xv x (hg.trans hw)⟩
theorem Arnd.kx (h:Arnd P S L L' ex v A w) (hg:Kx ex w w'):Arnd P S L L' ex v A w':=by
 obtain⟨K,first,cap,e,hE,hc⟩:=h;exact⟨K,first,cap,e,hE,λw s xv x nv F exF hr hw=>hc w s xv x nv F exF hr (hg.trans hw)⟩
theorem Fnc.letbe (h:Fnc P S L ex v F w) (hx:∀i,i<w.heap.size->ex' i->ex i):Fnc P S L ex' v F w:=by
 obtain⟨K,first,cap,e,hE,hc⟩:=h;exact⟨K,first,cap,e,hE,λw s xv x hw=>hc w s xv x (hw.more hx)⟩
theorem Arnd.letbe (h:Arnd P S L L' ex v A w) (hx:∀i,i<w.heap.size->ex' i->ex i):Arnd P S L L' ex' v A w:=by
 obtain⟨K,first,cap,e,hE,hc⟩:=h;exact⟨K,first,cap,e,hE,λw s xv x nv F exF hr hw hf=>hc w s xv x nv F exF hr (hw.more hx) hf⟩
theorem Fnc.lvl (h:Fnc P S L' ex v F w) (hx:∀w xv x,L.RX w xv x->L'.RX w xv x) (hy:∀w yv y,L'.RY w yv y->L.RY w yv y):Fnc P S L ex v F w:=by
 obtain⟨K,first,cap,e,hE,hc⟩:=h;refine⟨K,first,cap,e,hE,λw s xv x hw hs hr=>(hc w s xv x hw hs (hx _ _ _ hr)).mono ?_⟩;rintro e w1 ⟨yv,he,h1,h2,h3⟩;exact⟨yv,he,hy _ _ _ h1,h2,h3⟩
theorem Fnc.same {F':X->σ->Y×σ} (h:Fnc P S L ex v F w) (hf:∀x s,F x s=F' x s):Fnc P S L ex v F' w:=by
 have:F=F':=by funext x s;exact hf x s
 exact this▸h
end
theorem grown_new {w w1:World} {row:Option Nat} {g:Nat} (h:w.grownBy w1 row) (hg:w.heap.size<=g) (k:Nat) (v:Value):w.grownBy (w1.setCell ⟨g,k,none⟩ v) row:=
 have h':=grown_setCell (World.grownBy.refl w1 (some g)) k v
 ⟨h'.os.trans h.os,h'.tape.trans h.tape,h'.output.trans h.output,Nat.le_trans h.size h'.size,λi hi hn=>(h'.block i (Nat.lt_of_lt_of_le hi h.size) (by intro e;injection e with e;omega)).trans (h.block i hi hn)⟩
def Kt (ts:TypeId->Prop) (w w':World):Prop:=∀i e cs,ts e->Blk w i e cs->Blk w' i e cs
theorem Kt.below {ts:TypeId->Prop} {w w':World} (h:Below w.heap.size w w'):Kt ts w w':=λ_ _ _ _ hb=>hb.below h hb.lt
theorem Kt.trans {ts:TypeId->Prop} {a b c:World} (h:Kt ts a b) (k:Kt ts b c):Kt ts a c:=λi e cs he hb=>k i e cs he (h i e cs he hb)
theorem Kt.put {ts:TypeId->Prop} {w:World} {g:Nat} {t:TypeId} {cs:Array Value} (hb:Blk w g t cs) (ht:¬ts t) (k:Nat) (v:Value):Kt ts w (w.setCell ⟨g,k,none⟩ v):=λi e cs' he hb'=>by
 have hne:i≠g:=by
  rintro rfl;unfold Blk at hb hb';rw[hb]at hb';injection hb' with hb'
  injection hb' with _ ht'
  exact ht (ht'▸he)
 exact hb'.grown (grown_setCell (World.grownBy.refl w (some g)) k v) (by intro e;injection e with e;exact hne e)
structure Keepers (ts:TypeId->Prop) (S:Stt σ) (L:Lvl X Y):Prop where
 st:∀{s w w'},Kt ts w w'->S.St s w->S.St s w'
 rx:∀{xv x w w'},Kt ts w w'->L.RX w xv x->L.RX w' xv x
 ry:∀{yv y w w'},Kt ts w w'->L.RY w yv y->L.RY w' yv y
structure Shaped (L:Lvl X Y):Prop where
 x:∀{w xv x},L.RX w xv x->∃p A n c A2 n2 c2,xv= .agg #[.string p,.slice A n c,.slice A2 n2 c2]
 y:∀{w yv y},L.RY w yv y->∃k t A n c A2 n2 c2,yv= .agg #[.int .i64 k,.string t,.slice A n c,.slice A2 n2 c2]
def wrapS (As:List ((X->σ->Y×σ)->X->σ->Y×σ)) (F:X->σ->Y×σ):X->σ->Y×σ:=As.foldr (λA G=>A G) F
def IsArs (P:Program) (S:Stt σ) (L:Nat->Lvl X Y) (k:Nat) (ex:Nat->Prop) (w:World) (A:Option Addr) (n:Nat) (As:List ((X->σ->Y×σ)->X->σ->Y×σ)):Prop:=
 As.length=n/\∀j B,As[j]?=some B->∃ad av,A=some ad/\ad.block<w.heap.size/\w.cell? (ad.add j)=some av/\Arnd P S (L (k+j)) (L (k+j+1)) ex av B w
def exW (ex:Nat->Prop) (b:Nat) (i:Nat):Prop:=ex i\/(b<=i/\i<b+4)
theorem exW_no {ex:Nat->Prop} {b B:Nat} (hex:∀g,ex g->g<b) (h:b+4<=B):¬exW ex b B:=by
 rintro(h1|h1)
 · have:=hex _ h1;omega
 · omega
structure WrJ (P:Program) (S:Stt σ) (Lv:Lvl X Y) (ex:Nat->Prop) (w:World) (L:LoopState->Option Code->Loop) (tf tl:TypeId) (sl:Value) (st:LoopState) (pe:Option Code) (G:X->σ->Y×σ) (W:World):Prop where
 below:Below w.heap.size w W
 sl:Blk W (w.heap.size+1) tl #[sl]
 mark:W.heap[w.heap.size+2]?=some (.deferred (some []))
 entry:W.heap[w.heap.size+3]?=some (.loop (L st pe))
 size:w.heap.size+4<=W.heap.size
 f:∃gv,Blk W w.heap.size tf #[gv]/\Fnc P S Lv (exW ex w.heap.size) gv G W
structure Bdy (ex:Nat->Prop) (w:World) (R:LoopState->Option Code->Loop) (tf tl ta:TypeId) (sl av gv:Value) (W W2:World):Prop where
 below:Below w.heap.size w W2
 sl:Blk W2 (w.heap.size+1) tl #[sl]
 mark:W2.heap[w.heap.size+2]?=some (.deferred (some []))
 busy:W2.heap[w.heap.size+3]?=some (.loop (R .busy none))
 size:W2.heap.size=W.heap.size+1
 old:w.heap.size+4<=W.heap.size
 bf:Blk W2 w.heap.size tf #[gv]
 ba:Blk W2 W.heap.size ta #[av]
 kx:Kx (exW ex w.heap.size) W W2
theorem bdy_start {P:Program} {S:Stt σ} {Lv:Lvl X Y} {ex:Nat->Prop} {w W:World} {R:LoopState->Option Code->Loop} {tf tl:TypeId} {sl gv:Value} {G:X->σ->Y×σ} (h:WrJ P S Lv ex w R tf tl sl .ready none G W) (hg:Blk W w.heap.size tf #[gv]) (ta:TypeId) (av:Value):
 Bdy ex w R tf tl ta sl av gv W ((W.alloc (.cells #[av] ta)).putObj (w.heap.size+2+1) (.loop (R .busy none))):=by
 have hs:=h.size;have hl:w.heap.size+2+1<(W.alloc (.cells #[av] ta)).heap.size:=by simp;omega
 have oth:∀i,i≠w.heap.size+2+1->((W.alloc (.cells #[av] ta)).putObj (w.heap.size+2+1) (.loop (R .busy none))).heap[i]?=(W.alloc (.cells #[av] ta)).heap[i]?:=λi hi=>World.putObj_heap_other (by omega);have old:∀i,i<W.heap.size->i≠w.heap.size+2+1->((W.alloc (.cells #[av] ta)).putObj (w.heap.size+2+1) (.loop (R .busy none))).heap[i]?=W.heap[i]?:=λi hi hn=>(oth i hn).trans (Below.heap_alloc W _ i hi);refine⟨h.below.trans (((Below.refl _ _).alloc (by omega) _).trans (belowK_b (w:=w) (Nat.le_refl _) _ _ _ _ (by omega) ((Below.heap_alloc W _ _ (by omega)).trans h.entry) rfl rfl)),?_,?_,World.putObj_heap_same hl,?_,hs,?_,?_,?_⟩
 · exact(old _ (by omega) (by omega)).trans h.sl
 · exact(old _ (by omega) (by omega)).trans h.mark
 · rw[World.putObj_size];simp
 · exact(old _ (by omega) (by omega)).trans hg
 · exact(oth _ (by omega)).trans (Blk.new W ta #[av])
 · exact⟨rfl,rfl,rfl,by rw[World.putObj_size];simp,λi hi hn=>old i hi (by rintro rfl;exact hn (.inr (by omega)))⟩
theorem bdy_end {P:Program} {S:Stt σ} {L':Lvl X Y} {ex:Nat->Prop} {w W W2:World} {R:LoopState->Option Code->Loop} {tf tl ta:TypeId} {sl av gv nv:Value} {G:X->σ->Y×σ} (hex:∀g,ex g->g<w.heap.size)
 (h:Bdy ex w R tf tl ta sl av gv W W2)
 (hf:∀w0,Kx (exW ex w.heap.size) W w0->Kx ex w w0->Blk w0 W.heap.size ta #[av]->Blk w0 (W.heap.size+1) tf #[gv]->Fnc P S L' (exW ex w.heap.size) nv G w0):
 ((W2.alloc (.cells #[gv] tf)).setCell ⟨w.heap.size,0,none⟩ nv).heap[w.heap.size+2+1]?=some (.loop (R .busy none))/\
 WrJ P S L' ex w R tf tl sl .ready none G (((W2.alloc (.cells #[gv] tf)).setCell ⟨w.heap.size,0,none⟩ nv).putObj (w.heap.size+2+1) (.loop (R .ready none))):=by
 have hs:=h.size;have ho:=h.old;have e1:∀i,i<W2.heap.size->i≠w.heap.size->((W2.alloc (.cells #[gv] tf)).setCell ⟨w.heap.size,0,none⟩ nv).heap[i]?=W2.heap[i]?:=λi hi hn=>(Below.heap_setCell _ _ _ _ hn).trans (Below.heap_alloc W2 _ i hi);have bz:((W2.alloc (.cells #[gv] tf)).setCell ⟨w.heap.size,0,none⟩ nv).heap.size=W2.heap.size+1:=by simp
 have e2:∀i,i≠w.heap.size+3->(((W2.alloc (.cells #[gv] tf)).setCell ⟨w.heap.size,0,none⟩ nv).putObj (w.heap.size+2+1) (.loop (R .ready none))).heap[i]?=((W2.alloc (.cells #[gv] tf)).setCell ⟨w.heap.size,0,none⟩ nv).heap[i]?:=λi hi=>World.putObj_heap_other (by omega);have b1:((W2.alloc (.cells #[gv] tf)).setCell ⟨w.heap.size,0,none⟩ nv).heap[w.heap.size+2+1]?=some (.loop (R .busy none)):=(e1 _ (by omega) (by omega)).trans h.busy;have bn:Blk ((W2.alloc (.cells #[gv] tf)).setCell ⟨w.heap.size,0,none⟩ nv) (W.heap.size+1) tf #[gv]:=by
  have:=Blk.new W2 tf #[gv];rw[hs]at this;exact this.far (by simp;omega) nv
 have bl:Below w.heap.size w (((W2.alloc (.cells #[gv] tf)).setCell ⟨w.heap.size,0,none⟩ nv).putObj (w.heap.size+2+1) (.loop (R .ready none))):=
  ((h.below.alloc (by omega) _).setCell (by simp) _).trans (belowK_b (w:=w) (Nat.le_refl _) _ _ _ _ (by omega) b1 rfl rfl)
 have kx:Kx (exW ex w.heap.size) W (((W2.alloc (.cells #[gv] tf)).setCell ⟨w.heap.size,0,none⟩ nv).putObj (w.heap.size+2+1) (.loop (R .ready none))):=
  h.kx.trans ⟨rfl,rfl,rfl,by rw[World.putObj_size,bz];omega,λi hi hn=>(e2 i (by rintro rfl;exact hn (.inr (by omega)))).trans (e1 i hi (by rintro rfl;exact hn (.inr (by omega))))⟩
 refine⟨b1,bl,?_,?_,World.putObj_heap_same (by rw[bz];omega),by rw[World.putObj_size,bz];omega,nv,?_,hf _ kx (Kx.below bl) ?_ ?_⟩
 · exact(e2 _ (by omega)).trans ((e1 _ (by omega) (by omega)).trans h.sl)
 · exact(e2 _ (by omega)).trans ((e1 _ (by omega) (by omega)).trans h.mark)
 · exact(e2 _ (by omega)).trans ((h.bf.alloc _).put 0 nv)
 · exact(e2 _ (by omega)).trans ((e1 _ (by omega) (by omega)).trans h.ba)
 · exact(e2 _ (by omega)).trans bn
def Pur (P:Program) (ex:Nat->Prop) (v:Value) (f:Int->Value) (w0:World):Prop:=
 ∃(K:Nat) (cap:Array Value),v= .func (.func K) #[] cap/\Enters P K/\∀(w:World) (x:Int),Kx ex w0 w->
  Calls P K (#[.int .i64 x]++cap) w λe w'=>e= .returned (f x)/\Below w.heap.size w w'
theorem Pur.kx {P:Program} {ex:Nat->Prop} {v:Value} {f:Int->Value} {w w':World} (h:Pur P ex v f w) (hg:Kx ex w w'):Pur P ex v f w':=by
 obtain⟨K,cap,e,hE,hc⟩:=h;exact⟨K,cap,e,hE,λw x hw=>hc w x (hg.trans hw)⟩
def intL:Lvl Int Int:=⟨λ_ v x=>v= .int .i64 x,λ_ v x=>v= .int .i64 x⟩
def Steady (S:Stt σ):Prop:=∀s w w',Below w.heap.size w w'->S.St s w->S.St s w'
def timesF (again:Int->Bool) (F:Int->σ->Int×σ) (x:Int):Nat->Int×σ->Int×σ
 |0,r=>r
 |k+1,r=>if again r.1 then timesF again F x k (F x r.2)else r
theorem timesF_stop (f:Int->Bool) (F:Int->σ->Int×σ) (x:Int) (k:Nat) (r:Int×σ) (h:f r.1=false):timesF f F x k r=r:=by
 cases k with
 |zero=>rfl
 |succ k=>simp[timesF,h]
theorem timesF_go (f:Int->Bool) (F:Int->σ->Int×σ) (x:Int) {k M:Nat} (hk:k<M) (r:Int×σ) (h:f r.1=true):timesF f F x (M-(k+1)) (F x r.2)=timesF f F x (M-k) r:=by
 obtain⟨d,rfl⟩:∃d,M=k+1+d:=⟨M-(k+1),by omega⟩;rw[show k+1+d-(k+1)=d by omega,show k+1+d-k=d+1 by omega];simp[timesF,h]
end Go.Own.Fn
end

section
namespace Go.Own.Rn
open Go
theorem get_getD (s:ByteArray) (j:Nat):s.get! j=s.data.toList.getD j 0:=by
 show s.data.get!Internal j=_;simp only[Array.get!Internal_eq_getElem!,getElem!_def,List.getD,Array.getElem?_toList];cases s.data[j]?<;>rfl
theorem decode_any (s:ByteArray) (i:Nat) (hi:i<s.size):
 ((s.data.toList.getD i 0).toNat<128/\Utf8.decode s i=((s.data.toList.getD i 0).toNat,1))\/
 (128<=(Utf8.decode s i).1/\(Utf8.decode s i).1<=1114111/\1<=(Utf8.decode s i).2/\i+(Utf8.decode s i).2<=s.size/\∀j,j<(Utf8.decode s i).2->128<=(s.data.toList.getD (i+j) 0).toNat):=by
 have hb:∀k,(s.get! (i+k)).toNat<256:=λk=>(s.get! (i+k)).toNat_lt;have h0:=hb 0;have h1:=hb 1;have h2:=hb 2;have h3:=hb 3;by_cases h5:(s.get! (i+0)).toNat<128
 · left
   rw[<-get_getD];refine⟨h5,?_⟩;simp only[Utf8.decode];rw[if_pos h5]
   rfl
 · right
   have h4:128<=(s.data.toList.getD (i+0) 0).toNat:=by rw[<-get_getD];omega
   have one:∀j,j<1->128<=(s.data.toList.getD (i+j) 0).toNat:=λj hj=>by
    obtain rfl:j=0:=by omega
    exact h4
   have err:(128<=Utf8.runeError/\Utf8.runeError<=1114111/\1<=1/\i+1<=s.size/\∀j,j<1->128<=(s.data.toList.getD (i+j) 0).toNat):=⟨by decide,by decide,Nat.le_refl _,hi,one⟩;have big:∀k,(s.get! (i+k)).toNat/64=2->128<=(s.data.toList.getD (i+k) 0).toNat:=λk hk=>by rw[<-get_getD];omega
   simp only[Utf8.decode];rw[if_neg h5]
   split
   · rename_i hc
     simp only[Bool.and_eq_true,decide_eq_true_eq,beq_iff_eq]at hc
     split
     · refine⟨by omega,by omega,by omega,by omega,λj hj=>?_⟩
       have:j=0\/j=1:=by omega
       rcases this with rfl|rfl
       · exact h4
       · exact big 1 hc.2.2
     · exact err
   · split
     · rename_i hc
       simp only[Bool.and_eq_true,decide_eq_true_eq,beq_iff_eq]at hc
       split
       · rename_i hv
         simp only[Bool.and_eq_true,decide_eq_true_eq]at hv;refine⟨by omega,by omega,by omega,by omega,λj hj=>?_⟩;have:j=0\/j=1\/j=2:=by omega
         rcases this with rfl|rfl|rfl
         · exact h4
         · exact big 1 hc.1.2.2
         · exact big 2 hc.2.2
       · exact err
     · split
       · rename_i hc
         simp only[Bool.and_eq_true,decide_eq_true_eq,beq_iff_eq]at hc
         split
         · rename_i hv
           simp only[Bool.and_eq_true,decide_eq_true_eq,Utf8.valid,Bool.or_eq_true]at hv;refine⟨by omega,by omega,by omega,by omega,λj hj=>?_⟩;have:j=0\/j=1\/j=2\/j=3:=by omega
           rcases this with rfl|rfl|rfl|rfl
           · exact h4
           · exact big 1 hc.1.1.2.2
           · exact big 2 hc.1.2.2
           · exact big 3 hc.2.2
         · exact err
       · exact err
theorem encode_big (r:Int) (h:128<=r):2<=(Utf8.encode r).size/\(Utf8.encode r).size<=4/\128<=((Utf8.encode r).data.toList.getD ((Utf8.encode r).size-1) 0).toNat:=by
 unfold Utf8.encode;simp only;generalize hc:(if Utf8.valid r=true then r.toNat else Utf8.runeError)=c;have h1:128<=c:=by
  rw[<-hc]
  split
  · omega
  · decide
 have h2:c<=1114111:=by
  rw[<-hc]
  split
  · rename_i hv
    simp only[Utf8.valid,Bool.or_eq_true,Bool.and_eq_true,decide_eq_true_eq]at hv;omega
  · decide
 rw[if_neg (show¬c<0x80 by omega)];have m:∀x,x<64->(UInt8.ofNat (128+x)).toNat=128+x:=λx hx=>by
  rw[UInt8.toNat_ofNat_of_lt' (show 128+x<UInt8.size by have:UInt8.size=256:=rfl;omega)]
 have hm:=m (c % 64) (by omega)
 split
 · refine⟨by simp[ByteArray.size],by simp[ByteArray.size],?_⟩
   show 128<=(UInt8.ofNat (128+c % 64)).toNat;omega
 · split
   · refine⟨by simp[ByteArray.size],by simp[ByteArray.size],?_⟩
     show 128<=(UInt8.ofNat (128+c % 64)).toNat;omega
   · refine⟨by simp[ByteArray.size],by simp[ByteArray.size],?_⟩
     show 128<=(UInt8.ofNat (128+c % 64)).toNat;omega
def crl:List UInt8:=[0,13,10]
theorem crl_big (c:UInt8) (h:128<=c.toNat):crl.contains c=false:=by
 rw[Bool.eq_false_iff];intro hc;simp[crl]at hc;rcases hc with rfl|rfl|rfl<;>exact absurd h (by decide)
theorem noAny_more {s:List UInt8} {i:Nat} (h:Lib.NoAny s crl i):∀k,(∀j,j<k->i+j<s.length->128<=(s.getD (i+j) 0).toNat)->Lib.NoAny s crl (i+k)
 |0,_=>h
 |k+1,hk=>by
  have ih:=noAny_more h k λj hj=>hk j (by omega);intro j b hj hb;rcases Nat.lt_or_ge j (i+k)with h0|h1
  · exact ih j b h0 hb
  · obtain rfl:j=i+k:=by omega
    have hl:=(List.getElem?_eq_some_iff.1 hb).1;have:=hk k (by omega) hl;rw[List.getD,hb]at this;exact crl_big b this
end Go.Own.Rn
end

section
set_option maxHeartbeats 8000000
set_option maxRecDepth 100000
namespace Go.Proofs.YtkpppjhbmnfmkaaGreatDoor
open Lib (hid)
open Go.RowKit Go.Own Go.Own.Hf
def szS:ByteArray:=⟨(szL.map λn=>UInt8.ofNat (n+60)).toArray⟩
theorem sz_list:szL.all (λn=>Nat.ble 5 n&&Nat.ble n 30)=true:=by kernel_rfl
theorem sz_mem {s:Nat} (hs:s<257):sz s∈szL:=by
 have hl:szL.length=257:=by kernel_rfl
 rw[sz,List.getD,List.getElem?_eq_getElem (by omega)];exact List.getElem_mem _
theorem sz_in {s:Nat} (hs:s<257):5<=sz s/\sz s<=30:=by
 have h:=List.all_eq_true.1 sz_list _ (sz_mem hs);simp only[Bool.and_eq_true]at h;exact⟨Nat.le_of_ble_eq_true h.1,Nat.le_of_ble_eq_true h.2⟩
theorem idx_sz {s:Nat} (hs:s<257) (W:World):(Instr.index 9 (.string szS) (.int .i64 (s:Int))).run Tryz.prog W= .ok (.int .u8 ((sz s+60:Nat):Int)) W:=by
 have hl:szL.length=257:=by kernel_rfl
 have hz:szS.size=257:=by
  show(szL.map λn=>UInt8.ofNat (n+60)).toArray.size=257;rw[List.size_toArray,List.length_map,hl]
 have hk:(s:Int)<(szS.size:Int):=by omega
 have h1:=sz_in hs;have e:szS[s]'(by omega)=UInt8.ofNat (sz s+60):=by
  have h2:sz s=szL[s]'(by omega):=by rw[sz,List.getD,List.getElem?_eq_getElem (by omega)];rfl
  rw[h2];exact List.getElem_map ..
 have e2:(UInt8.ofNat (sz s+60)).toNat=sz s+60:=by
  rw[UInt8.toNat_ofNat'];exact Nat.mod_eq_of_lt (by omega)
 have h0:s<szS.size:=by omega
 have e3:(sz s+60) % 256=sz s+60:=Nat.mod_eq_of_lt (by omega);simp only[Instr.index,run_underlying Tryz.underlying9,asIntOf];simp[h0,e,e2,e3]
theorem szS_lit:szS={data:=(([73,83,88,88,88,88,88,88,88,84,90,88,88,90,88,88,88,88,88,88,88,88,90,88,88,88,88,88,88,88,88,88,66,70,70,72,73,66,68,71,70,70,68,71,68,66,66,66,65,65,65,66,66,66,66,66,66,66,67,68,75,66,72,70].append [73,66,67,67,67,67,67,67,67,67,67,67,67,67,67,67,67,67,67,67,67,67,67,67,68,67,68,73,79,73,74,66,75,65,66,65,66,65,66,66,66,65,67,67,66,66,66,65,66,67,66,65,65,66,67,67,67,67,67,75,71,74,73,88]).append ([80,82,80,80,82,82,82,83,82,83,83,83,83,83,84,83,84,84,82,83,84,83,83,83,83,81,82,83,82,83,83,84,82,81,80,82,82,83,83,81,83,82,82,84,81,82,83,83,81,81,82,81,83,82,83,83,80,82,82,82,83,82,82,83].append ([86,86,80,79,82,83,82,85,86,86,86,87,87,86,84,85,79,81,86,87,87,86,87,84,81,81,86,86,88,87,87,87].append [80,84,80,81,82,81,81,83,82,82,85,85,84,84,86,83,86,87,86,86,87,87,87,87,87,88,87,87,87,87,87,86,90]))).toArray}:=by kernel_rfl
theorem hsizes_any (w:World):Calls Tryz.prog 234 #[] w λe w'=>e= .returned (.string szS)/\w'=w:=by
 rw[szS_lit];go_enter Tryz.func234,Tryz.ntmps234;go_wp2;go_ret;exact⟨rfl,rfl⟩
theorem hbits_any (s:Nat) (hs:s<257) (w:World):Calls Tryz.prog 213 #[.int .i64 (s:Nat)] w λe w'=>e= .returned (.tuple #[.int .i64 (sz s:Nat),.bool true])/\w'=w:=by
 have h0:=idx_sz hs;have h1:=sz_in hs;have HS:=hid (hsizes_any w);have h2:(s:Int)<257:=by omega
 generalize szS=S at*
 generalize sz s=q at*
 have e1:IntKind.u8.wrap (((q+60:Nat):Int)-65)=((q-5:Nat):Int):=by simp[IntKind.wrap,IntKind.bits,IntKind.signed];omega
 have e2:wrap64 (((q-5:Nat):Int)+5)=(q:Int):=by unfold wrap64;omega
 have e3:wrap64 (((q-5:Nat):Int))=((q-5:Nat):Int):=by unfold wrap64;omega
 generalize ((q+60:Nat):Int)=x at*
 generalize ((q-5:Nat):Int)=y at*
 clear hs h1;go_enter Tryz.func213,Tryz.ntmps213;go_wp2_with (first
  |(go_at_call 234
    with_reducible refine Calls.mono HS.out ?_
    rintro e w1 ⟨rfl,hw⟩;subst w1)
  |fail)
 go_ret2;exact⟨by simp[e2,e3],rfl⟩
def fst (b:Nat):Nat:=match b with|0=>0|b+1=>2*(fst b+(szL.filter λn=>Nat.beq n b).length)
def cnt (b s:Nat):Nat:=((szL.take s).filter λn=>Nat.beq n b).length
def nx (b s:Nat):Nat:=fst b+cnt b s
theorem cd_list:(List.range 257).all (λs=>Nat.beq (cd s) (nx (sz s) s))=true:=by kernel_rfl
theorem cd_nx {s:Nat} (hs:s<257):cd s=nx (sz s) s:=Nat.eq_of_beq_eq_true (List.all_eq_true.1 cd_list s (List.mem_range.2 hs))
theorem nx_list:(List.range 31).all (λb=>Nat.ble (nx b 257) 1073741824)=true:=by kernel_rfl
theorem nx_le {b s:Nat} (hb:b<31):nx b s<=1073741824:=by
 have h:=Nat.le_of_ble_eq_true (List.all_eq_true.1 nx_list b (List.mem_range.2 hb));have h2:cnt b s<=cnt b 257:=by
  have e:szL.take 257=szL:=by kernel_rfl
  unfold cnt;rw[e];exact(List.Sublist.filter _ (List.take_sublist s szL)).length_le
 unfold nx at*
 omega
theorem nx_step {b s:Nat} (hs:s<257):nx b (s+1)=nx b s+(if sz s=b then 1 else 0):=by
 have hl:szL.length=257:=by kernel_rfl
 have e:szL[s]?=some (sz s):=by rw[sz,List.getD,List.getElem?_eq_getElem (by omega)];rfl
 unfold nx cnt;rw[List.take_add_one,e,Option.toList,List.filter_append,List.length_append,Nat.add_assoc]
 congr 2
 by_cases h:sz s=b
 · rw[if_pos h,h]
   simp
 · rw[if_neg h]
   have:Nat.beq (sz s) b=false:=by
    cases hq:Nat.beq (sz s) b with
    |false=>rfl
    |true=>exact absurd (Nat.eq_of_beq_eq_true hq) h
   simp[this]
theorem nx_next (b:Nat):nx (b+1) 0=2*nx b 257:=by
 have e:szL.take 257=szL:=by kernel_rfl
 show fst (b+1)+0=2*(fst b+cnt b 257);unfold cnt;rw[e]
 rfl
def Ct (W:World) (pb:Nat) (t:TypeId) (f:Nat->Nat):Prop:=∃cs:Array Value,Blk W pb t cs/\cs.size=257/\∀i,i<257->cs[i]?=some (.int .u32 (f i:Nat))
section
variable {W W':World} {pb:Nat} {t:TypeId} {f:Nat->Nat}
theorem Ct.cell (h:Ct W pb t f) {i:Nat} (hi:i<257):W.cell? ⟨pb,i,none⟩=some (.int .u32 (f i:Nat)):=by
 obtain⟨cs,hb,_,hc⟩:=h;exact(hb.cell i).trans (hc i hi)
theorem Ct.frozen (h:Ct W pb t f) (i:Nat):W.frozen? ⟨pb,i,none⟩=false:=by
 obtain⟨cs,hb,_,hc⟩:=h;exact hb.frozen i
theorem Ct.lt (h:Ct W pb t f):pb<W.heap.size:=by
 obtain⟨cs,hb,_,hc⟩:=h;exact hb.lt
theorem Ct.put (h:Ct W pb t f) (i:Nat) (x:Nat):Ct (W.setCell ⟨pb,i,none⟩ (.int .u32 (x:Nat))) pb t (λj=>if j=i then x else f j):=by
 obtain⟨cs,hb,hs,hc⟩:=h;refine⟨_,hb.put i _,by simp[hs],λj hj=>?_⟩;show _=some (Value.int .u32 ((if j=i then x else f j:Nat):Int));by_cases e:j=i
 · subst e
   simp[hs,hj]
 · rw[if_neg e,Array.getElem?_setIfInBounds_ne (λh=>e h.symm)]
   exact hc j hj
theorem Ct.same {g:Nat->Nat} (h:Ct W pb t f) (e:∀i,i<257->f i=g i):Ct W pb t g:=by
 obtain⟨cs,hb,hs,hc⟩:=h;exact⟨cs,hb,hs,λi hi=>by rw[hc i hi,e i hi]⟩
end
theorem zero_cod:∃Z:Array Value,Z.size=257/\(∀i,i<257->Z[i]?=some (.int .u32 0))/\(∀W,(zeroValue 250).run Tryz.prog W= .ok (.agg Z) W)/\
 ∀w:World,(storeCells ⟨w.heap.size,0,none⟩ Z.toList 0).run Tryz.prog (w.alloc (.cells Z 250))= .ok () (w.alloc (.cells Z 250)):=
 ⟨Array.replicate 257 (.int .u32 0),by simp,λi hi=>by simp[hi],λW=>by kernel_rfl,λw=>run_storeCells_new w _ _ _ (by kernel_rfl) rfl (by kernel_rfl)⟩
def CodV (v:Value):Prop:=∃cs:Array Value,v= .agg cs/\cs.size=257/\∀i,i<257->cs[i]?=some (.int .u32 (cd i:Nat))
def CodPost (w:World) (e:Ending) (w':World):Prop:=∃v,e= .returned v/\CodV v/\Below w.heap.size w w'
def cdF (b s:Nat) (i:Nat):Nat:=if sz i<b\/(sz i=b/\i<s)then cd i else 0
theorem hcodes_any (w:World):Calls Tryz.prog 214 #[] w (CodPost w):=by
 obtain⟨Z,hl,hm,hz,h0⟩:=zero_cod;have HS:=hid h0;have HZ:=hid (And.intro hl hm);clear h0 hm;have st0:=HS.out w;have st1:=HS.out (w.alloc (.cells Z 250));simp only[World.size_alloc]at st1;go_enter Tryz.func214,Tryz.ntmps214;go_upto_region 2 with fail;have HT:=hid (show Ct ((w.alloc (.cells Z 250)).alloc (.cells Z 250)) (w.heap.size+1) 250 (cdF 1 0)from⟨Z,by
  have h:=Blk.new (w.alloc (.cells Z 250)) 250 Z;simp only[World.size_alloc]at h;exact h,HZ.out.1,λi hi=>by
  have h5:=sz_in hi;rw[HZ.out.2 i hi,cdF,if_neg (by omega)]
  rfl⟩)
 have HX:=hid ((Blk.new w 250 Z).alloc (.cells Z 250));have HB:=hid (((Below.refl w.heap.size w).alloc (Nat.le_refl _) (.cells Z 250)).alloc (by simp) (.cells Z 250));clear hz st0 st1 hl;generalize (w.alloc (.cells Z 250)).alloc (.cells Z 250)=W1 at*
 obtain⟨g,hg⟩:∃g,w.heap.size=g:=⟨_,rfl⟩;have HG:=hid hg;rw[hg]at HT HX HB ⊢;clear hg;go_wp2_with fail;go_loopw [3,2] (λb x wr=>∃k:Nat,1<=k/\k<=31/\b= .int .i64 (k:Int)/\x= .int .u32 (nx (k-1) 257:Nat)/\Hid (Ct wr (g+1) 250 (cdF k 0)/\Blk wr g 250 Z/\Below g w wr)) (λb _ _=>31-(intOf b).toNat)
 case atStart=>exact⟨1,by omega,by omega,rfl,by kernel_rfl,hid ⟨HT.out,HX.out,HB.out⟩⟩
 case round=>
  obtain⟨k,hD,hk,rfl,rfl,hh⟩:=hrel;by_cases hn:k<31
  · have ho:nx k 0=2*nx (k-1) 257:=by
     obtain⟨j,rfl⟩:∃j,k=j+1:=⟨k-1,by omega⟩;exact nx_next j
    have hE:=nx_le (b:=k-1) (s:=257) (by omega);have hF:IntKind.u32.wrap ((nx (k-1) 257:Nat)*2)=((nx k 0:Nat):Int):=by
     rw[ho];simp[IntKind.wrap,IntKind.bits,IntKind.signed];omega
    clear ho hE;generalize nx (k-1) 257=x0 at*
    obtain⟨y0,h6⟩:∃y,nx k 0=y:=⟨_,rfl⟩;rw[h6]at hF;have HY:=hid h6;have HH:=hid hh.out;have hO:(k:Int)<=30:=by omega
    clear h6 hh;go_wp2_with fail;go_loopw [13,2] (λs x ws=>∃j:Nat,j<=257/\s= .int .i64 (j:Int)/\x= .int .u32 (nx k j:Nat)/\Hid (Ct ws (g+1) 250 (cdF k j)/\Blk ws g 250 Z/\Below g w ws)) (λs _ _=>257-(intOf s).toNat)
    case atStart=>exact⟨0,by omega,rfl,by rw[HY.out],hid HH.out⟩
    case round=>
     obtain⟨j,hj,rfl,rfl,hi⟩:=hrel;by_cases h1:j<257
     · have h7:=hid (λW=>hbits_any j h1 W)
       have h0:=nx_step (b:=k) h1;have h2:=cd_nx h1;have hq:=nx_le (b:=k) (s:=j+1) hn;by_cases he:sz j=k
       · rw[if_pos he]at h0
         rw[he]at h2;have c0:=hi.out.1.cell h1;have f0:=hi.out.1.frozen j;have hR:=hi.out.1.lt;have hf:IntKind.u32.wrap (((nx k j:Nat):Int)+1)=((nx k (j+1):Nat):Int):=by rw[h0];simp[IntKind.wrap,IntKind.bits,IntKind.signed];omega
         have HI:=hid ((hi.out.1.put j (nx k j)).same (g:=cdF k (j+1)) (λi _=>by
          unfold cdF;by_cases e:i=j
          · subst e;rw[if_pos rfl,if_pos (.inr ⟨he,by omega⟩),h2]
          · rw[if_neg e]
            by_cases e2:sz i<k\/(sz i=k/\i<j)
            · rw[if_pos e2,if_pos (e2.imp id λh=>⟨h.1,by omega⟩)]
            · rw[if_neg e2,if_neg (λh=>e2 (h.imp id λh=>⟨h.1,by omega⟩))]))
         have HJ:=hid (And.intro (hi.out.2.1.far (p:=⟨g+1,j,none⟩) (by simp) (.int .u32 (nx k j:Nat))) (hi.out.2.2.setCell (p:=⟨g+1,j,none⟩) (by simp) (.int .u32 (nx k j:Nat))));rw[he]at h7;have hG:(j:Int)<257:=by omega
         have hH:wrap64 ((j:Int)+1)=((j+1:Nat):Int):=by unfold wrap64;omega
         clear h0 h2 hq hi he hj;obtain⟨x2,h8⟩:∃y,nx k (j+1)=y:=⟨_,rfl⟩;rw[h8]at hf;have h9:=hid h8;clear h8;generalize nx k j=x1 at*
         go_wp2_with (first
          |(go_at_call 213
            with_reducible refine Calls.mono (h7.out _) ?_
            rintro e w2 ⟨rfl,hw⟩;subst w2)
          |fail)
         go_roundw
         case rel=>exact⟨j+1,by omega,by go_num,by rw[h9.out],hid ⟨HI.out,HJ.out⟩⟩
         case measure=>simp[intOf];omega
       · rw[if_neg he]at h0
         have HI:=hid (hi.out.1.same (g:=cdF k (j+1)) (λi _=>by
          unfold cdF;by_cases e2:sz i<k\/(sz i=k/\i<j)
          · rw[if_pos e2,if_pos (e2.imp id λh=>⟨h.1,by omega⟩)]
          · rw[if_neg e2,if_neg (λh=>e2 (h.imp id λh=>⟨h.1,by
             rcases Nat.lt_or_ge i j with h3|h3
             · exact h3
             · have:i=j:=by omega
               subst this;exact absurd h.1 he⟩))]))
         have HJ:=hid hi.out.2;have h9:=hid h0;have hne:decide (sz j=k)=false:=by simp[he]
         have hP:¬sz j=k:=he;have hQ:¬(sz j:Int)=(k:Int):=by omega
         have hG:(j:Int)<257:=by omega
         have hH:wrap64 ((j:Int)+1)=((j+1:Nat):Int):=by unfold wrap64;omega
         clear h0 h2 hq hi he hj;generalize hI:nx k j=x1 at*
         clear hI;generalize sz j=q at*
         go_wp2_with (first
          |(go_at_call 213
            with_reducible refine Calls.mono (h7.out _) ?_
            rintro e w2 ⟨rfl,hw⟩;subst w2)
          |fail)
         go_roundw
         case rel=>exact⟨j+1,by omega,by go_num,by rw[h9.out];simp,hid ⟨HI.out,HJ.out⟩⟩
         case measure=>simp[intOf];omega
     · obtain rfl:j=257:=by omega
       have HI:=hid (hi.out.1.same (g:=cdF (k+1) 0) (λi hi=>by
        unfold cdF;by_cases e2:sz i<k\/(sz i=k/\i<257)
        · rw[if_pos e2,if_pos (by omega)]
        · rw[if_neg e2,if_neg (by omega)]))
       have HJ:=hid hi.out.2;have hS:wrap64 ((k:Int)+1)=((k+1:Nat):Int):=by unfold wrap64;omega
       obtain⟨y1,hb⟩:∃y,nx k 257=y:=⟨_,rfl⟩;have hJ:=hid hb;rw[hb];clear hi hb h1 hj;go_wp2_with fail;go_roundw
       case rel=>exact⟨k+1,by omega,by omega,by go_num,by rw[<-hJ.out];rfl,hid ⟨HI.out,HJ.out⟩⟩
       case measure=>simp[intOf];omega
  · obtain rfl:k=31:=by omega
    obtain⟨cs,hs,h4,hc⟩:=hh.out.1;have HC:=hid (show Blk wr (g+1) 250 cs from hs);have HO:=hid hh.out.2.1;have ht:=hid hh.out.2.2;have hK:=hid (show CodV (.agg cs)from⟨cs,rfl,h4,λi hi=>by
     rw[hc i hi,cdF,if_pos (.inl (by have:=sz_in hi;omega))]⟩)
    have hu:cs.all (·.oneCell')=true:=by
     rw[Array.all_eq_true];intro i hi;have h:=hc i (by omega);rw[Array.getElem?_eq_getElem hi]at h;injection h with h
     rw[h];rfl
    have hd:=hid (show(Tryz.prog.info? 250).map (·.size)=some cs.size by rw[h4];kernel_rfl);have hL:=hid (show Z.size=cs.size by rw[h4,HZ.out.1]);have H1:=hid hu;clear hh hs hc hu h4 hn hk hD;go_wp2_with (first
     |(refine wpList_rowGet _ rfl (.tmp 1) 250 rfl (g+1) 250 cs rfl HC.out _ Tryz.underlying250 rfl hd.out ?_)
     |(refine wpList_rowPut _ rfl (.tmp 0) (.tmp 30) 250 rfl g 250 Z cs rfl rfl HO.out hd.out hL.out H1.out ?_
       intro w5 hA hC;have hM:=hid hA;have hN:=hid hC;clear hA hC)
     |fail)
    refine bodyPost_ret (results_cell_row (p:=0) (ty:=250) rfl _ _ g _ cs _ _ rfl hM.out Tryz.underlying250 rfl hd.out) rfl ⟨_,rfl,hK.out,?_⟩;rw[HG.out];exact ht.out.grown hN.out (by rw[<-HG.out];exact ht.out.size) (λj e=>by injection e with e;omega)
end Go.Proofs.YtkpppjhbmnfmkaaGreatDoor
end

section
namespace Go
def Exit.many (G : Nat → Act → World → Prop) (Q : Exit → Act → World → Prop) : Exit → Act → World → Prop
 | .goto l, a, w => G l a w
 | e, a, w => Q e a w
section
variable {P : Program} {a : Act} {w : World} {Q : Exit → Act → World → Prop}
theorem wp_scope_many {c : Code} (J : Nat → Act → World → Prop) (μ : Nat → Act → World → Nat) (hf : ∀ l a w, J l a w → ∃ r, findLabel c l = some (.seq .skip r))
 (first : (∀ l r, findLabel c l = some (.seq .skip r) → ∀ a w, J l a w → r.wp P (Exit.many (fun l' a' w' => J l' a' w') Q) a w) → c.wp P (Exit.many J Q) a w)
 (pass0 : ∀ l r, findLabel c l = some (.seq .skip r) → ∀ a w, J l a w → r.wp P (Exit.many (fun l' a' w' => J l' a' w' ∧ μ l' a' w' < μ l a w) Q) a w) : (Code.scope c).wp P Q a w := by
 have pass : ∀ l r, findLabel c l = some r → ∀ a w, J l a w → r.wp P (Exit.many (fun l' a' w' => J l' a' w' ∧ μ l' a' w' < μ l a w) Q) a w := fun l r hl a w hJ => by
  obtain ⟨r', h2⟩ := hf l a w hJ
  rw [h2] at hl
  injection hl with hl
  subst hl
  exact wp_seq (wp_skip (pass0 l r' h2 a w hJ))
 intro b k cs
 have hg : ∀ l r, findLabel c l = some r → gotoIn l (.inScope c :: k) = some (.code r :: .inScope c :: k) := fun l r h => by simp [gotoIn, h]
 have key : ∀ n l r a w, findLabel c l = some r → μ l a w = n → J l a w → ∃ e a' w', Q e a' w' ∧ Arrives P (lone (b.at a (.code r :: .inScope c :: k)) cs w) b k cs e a' w' := by
  intro n
  induction n using Nat.strongRecOn with
  | _ n ih =>
    intro l r a w hl hn hJ
    obtain ⟨e, a₁, w₁, hq, h0⟩ := pass l r hl a w hJ b (.inScope c :: k) cs
    cases e with
    | normal => exact ⟨.normal, a₁, w₁, hq, Steps.trans h0 (.one step_inScope)⟩
    | exit id => exact ⟨.exit id, a₁, w₁, hq, fun k' hk => h0 k' (by simp [exitTo, hk])⟩
    | goto l' =>
      obtain ⟨h4, h5⟩ := hq
      obtain ⟨r0, h2⟩ := hf _ _ _ h4
      obtain ⟨e₂, a₂, w₂, h3, h1⟩ := ih _ (by omega) l' _ a₁ w₁ h2 rfl h4
      exact ⟨e₂, a₂, w₂, h3, .of_steps (h0 _ (hg _ _ h2)) h1⟩
    | ret => exact ⟨_, a₁, w₁, hq, h0⟩
    | panic ch => exact ⟨_, a₁, w₁, hq, h0⟩
    | outgrown => exact ⟨_, a₁, w₁, hq, h0⟩
 have first' := first fun l r hl a w hJ => by
  refine Code.wp_mono (fun e a' w' h => ?_) (pass0 l r hl a w hJ)
  cases e with
  | goto l => exact h.1
  | normal => exact h
  | exit id => exact h
  | ret => exact h
  | panic ch => exact h
  | outgrown => exact h
 obtain ⟨e, a₁, w₁, hq, h0⟩ := first' b (.inScope c :: k) cs
 cases e with
 | normal => exact ⟨.normal, a₁, w₁, hq, .head step_scope (Steps.trans h0 (.one step_inScope))⟩
 | exit id => exact ⟨.exit id, a₁, w₁, hq, fun k' hk => .head step_scope (h0 k' (by simp [exitTo, hk]))⟩
 | goto l' =>
   obtain ⟨r', h2⟩ := hf _ _ _ hq
   obtain ⟨e₂, a₂, w₂, h3, h1⟩ := key _ l' _ a₁ w₁ h2 rfl hq
   exact ⟨e₂, a₂, w₂, h3, .of_steps (.head step_scope (h0 _ (hg _ _ h2))) h1⟩
 | ret => exact ⟨_, a₁, w₁, hq, .of_steps (.one step_scope) h0⟩
 | panic ch => exact ⟨_, a₁, w₁, hq, .of_steps (.one step_scope) h0⟩
 | outgrown => exact ⟨_, a₁, w₁, hq, .of_steps (.one step_scope) h0⟩
end
end Go
end

section
namespace Go.Own
open Go.ChangeShapes Go.WideShapes Go.ChangeAt Go.RowKit
theorem byte_of_wf {z:Int} (h:(Lit.int .u8 z).wf=true):0<=z/\z<=255:=by
 have:=bounds_u8 h;omega
theorem rd_of_trod {H:Type} {enc:TypeId×Value->H} {P:Program} {W:World} {base:Nat} {spare:Nat->Bool} {held:Bool} {t e:TypeId} {a:Option Addr} {len cap:Nat} {d:DataW H} {p:List MemPlace}
 (ht:P.underlying t=some (.slice e)) (he:P.underlying e=some (.int .u8)) (hc:P.cellsOf e=1) (h:DataW.Trod enc P W base spare held t (.slice a len cap) d p):
 ∃l,Rd W W.heap.size a len l/\len<=cap:=by
 obtain⟨fuel,hf⟩:=h;rcases open_ints ht he hc hf with⟨h1,_⟩|⟨x,l,c,zs,h1,_,hl,hm,hz,_,hcell,h3⟩
 · simp[Value.cells]at h1
   obtain⟨rfl,rfl,rfl⟩:=h1;exact⟨[],⟨rfl,λh=>absurd h (by omega)⟩,Nat.le_refl _⟩
 · simp[Value.cells]at h1
   obtain⟨rfl,rfl,rfl⟩:=h1;have h4:len<=zs.length:=by rw[hz];split<;>omega
   refine⟨(zs.take len).map λz=>UInt8.ofNat z.toNat,⟨by rw[List.length_map,List.length_take];omega,λhn=>⟨x,rfl,?_,λj hj=>?_⟩⟩,hl⟩
   · have h0:=hcell 0 (by omega)
     have:=World.block_lt_of_cell? W _ h0
     rwa [add_block]at this
   · rw[hcell j (by omega)]
     have h2:j<zs.length:=by omega
     have hw:=byte_of_wf (h3 zs[j] (List.getElem_mem h2));have e1:((zs.take len).map λz=>UInt8.ofNat z.toNat).getD j 0=UInt8.ofNat (zs[j]).toNat:=by
      simp[List.getD,hj,h2]
     rw[e1,UInt8.toNat_ofNat_of_lt' (by simp;omega)];simp[List.getD,h2];omega
end Go.Own
end

section
namespace Go.Own
open Go.ChangeShapes Go.WideShapes Go.ChangeAt Go.RowKit
def Ri (w:World) (B:Nat) (A:Option Addr) (n:Nat) (zs:List Int):Prop:=
 zs.length=n/\(0<n->∃ad,A=some ad/\ad.block<B/\∀j,j<n->w.cell? (ad.add j)=some (.int .i64 (zs.getD j 0)))
theorem Ri.below {w w':World} {B n:Nat} {A:Option Addr} {zs:List Int} (h:Ri w B A n zs) (hb:Below B w w'):Ri w' B A n zs:=
 ⟨h.1,λhn=>by
   obtain⟨ad,e,h0,hc⟩:=h.2 hn;exact⟨ad,e,h0,λj hj=>(hb.cell (by rw[add_block];exact h0)).trans (hc j hj)⟩⟩
theorem Ri.at_ {w:World} {B n k:Nat} {A:Option Addr} {zs:List Int} (h:Ri w B A n zs) (hk:k<n):∃ad,A=some ad/\w.cell? (ad.add k)=some (.int .i64 (zs.getD k 0)):=by
 obtain⟨ad,e,_,hc⟩:=h.2 (by omega);exact⟨ad,e,hc k hk⟩
theorem i64_and63 (n:Int):bits .and .i64 n 63=n % 64:=by
 have h0:(BitVec.ofInt 64 63).toNat=2^6-1:=by decide
 have key:(BitVec.ofInt 64 n&&& BitVec.ofInt 64 63).toNat=(n % ((2^64:Nat):Int)).toNat % 2^6:=by
  rw[BitVec.toNat_and,BitVec.toNat_ofInt,h0,Nat.and_two_pow_sub_one_eq_mod]
 show IntKind.i64.wrap ((BitVec.ofInt 64 n&&& BitVec.ofInt 64 63).toNat:Nat)=n % 64;rw[key,IntKind.wrap_i64];omega
section
variable {H:Type} {enc:TypeId×Value->H} {P:Program} {W:World} {base:Nat} {spare:Nat->Bool} {held:Bool}
theorem ri_of_trod {t e:TypeId} {a:Option Addr} {len cap:Nat} {d:DataW H} {p:List MemPlace}
 (ht:P.underlying t=some (.slice e)) (he:P.underlying e=some (.int .i64)) (hc:P.cellsOf e=1) (h:DataW.Trod enc P W base spare held t (.slice a len cap) d p):
 ∃zs,Ri W W.heap.size a len zs/\len<=cap:=by
 obtain⟨fuel,hf⟩:=h;rcases open_ints ht he hc hf with⟨h1,_⟩|⟨x,l,c,zs,h1,_,hl,hm,hz,_,hcell,h2⟩
 · simp[Value.cells]at h1
   obtain⟨rfl,rfl,rfl⟩:=h1;exact⟨[],⟨rfl,λh=>absurd h (by omega)⟩,Nat.le_refl _⟩
 · simp[Value.cells]at h1
   obtain⟨rfl,rfl,rfl⟩:=h1;have h3:len<=zs.length:=by rw[hz];split<;>omega
   refine⟨zs.take len,⟨by rw[List.length_take];omega,λhn=>⟨x,rfl,?_,λj hj=>?_⟩⟩,hl⟩
   · have h0:=hcell 0 (by omega)
     have:=World.block_lt_of_cell? W _ h0
     rwa [add_block]at this
   · rw[hcell j (by omega)]
     simp[List.getD,hj]
end
end Go.Own
end
