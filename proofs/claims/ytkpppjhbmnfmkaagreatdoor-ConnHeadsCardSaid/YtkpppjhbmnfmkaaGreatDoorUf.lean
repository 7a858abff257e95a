import Derived.Test.YtkpppjhbmnfmkaaGreatDoorJav
import Derived.Test.YtkpppjhbmnfmkaaGreatDoorVi
import Derived.SizedLaws
import Derived.Test.YtkpppjhbmnfmkaaGreatDoorJaa
import Derived.Deep.Slices
import Derived.Deep.Fields
import Derived.ChangeSame
import Derived.ProofKit
import Derived.OpenShut
import Derived.Lib.SmallJoins
set_option linter.unusedSimpArgs false
set_option linter.unusedVariables false
set_option maxRecDepth 100000
namespace Go.Own
open Go.ChangeShapes Go.WideShapes Go.Deep
section
variable {H:Type} {enc:TypeId×Value->H} {P:Program} {w:World} {base:Nat} {spare:Nat->Bool} {held:Bool}
theorem open_slice_fields {t e:TypeId} {fs:Array Field} {fuel:Nat} {cs:List Value} {x:DataW H×List MemPlace} (ht:P.underlying t=some (.slice e)) (he:P.underlying e=some (.struct fs))
 (hone:oneCellFields P fs=true) (hC:P.cellsOf e=fs.size) (h:DataW.trod enc P w base spare held fuel t cs=some x):
 (cs=[.slice none 0 0]/\x=(.nil,[]))\/
 ∃(a:Addr) (len cap m:Nat) (D:Nat->DataW H) (Pl:Nat->List MemPlace),cs=[.slice (some a) len cap]/\base<=a.block/\len<=cap/\cap<=maxLen/\m=(if spare a.block then cap else len)/\
  x=(.slice ((List.range len).map D) ((List.range (m-len)).map λj=>D (len+j)),MemPlace.row a (m*fs.size)++(List.range m).flatMap Pl)/\
  ∀i,i<m->∃(ys:List (DataW H×List MemPlace)) (n:Nat),D i= .agg (ys.map (·.1))/\Pl i=ys.flatMap (·.2)/\ys.length=fs.size/\
   ∀(j:Nat) (f:Field),fs[j]?=some f->∃(v:Value) (y:DataW H×List MemPlace),w.cell? (a.add (i*fs.size+j))=some v/\ys[j]?=some y/\DataW.trod enc P w base spare held n f.type [v]=some y:=by
 rcases open_slice ht h with h0|⟨a,len,cap,m,n,D,Pl,hcs,hb,hl,hm,hmm,hx,hi⟩
 · exact .inl h0
 · refine .inr ⟨a,len,cap,m,D,Pl,hcs,hb,hl,hm,hmm,by rw[hC]at hx;exact hx,λi him=>?_⟩
   obtain⟨cs',hc,ht'⟩:=hi i him;rw[hC]at hc;obtain⟨ys,n',hn',hy,hlen,hyl,hf⟩:=DataW.trod_struct he ht';obtain⟨_,hcl,hat⟩:=World.cells?_some hc;simp only[Prod.mk.injEq]at hy;refine⟨ys,n',hy.1,hy.2,hyl,λj f hj=>?_⟩;obtain⟨ho,hk⟩:=hone_of hone j f hj;have hjl:j<fs.size:=(Array.getElem?_eq_some_iff.1 hj).1;have hcell:=hat j hjl;have hv:cs'[j]?=some (cs'[j]'(by omega)):=List.getElem?_eq_getElem (by omega);have h1:=hf j f hj;rw[ho,hk]at h1;have hone':(cs'.drop j).take 1=[cs'[j]'(by omega)]:=by
    rw[List.drop_eq_getElem_cons (by omega)]
    rfl
   rw[hone']at h1;have hys:ys[j]?=some (ys[j]'(by omega)):=List.getElem?_eq_getElem (by omega);refine⟨_,_,?_,hys,h1.trans hys⟩;rw[<-Go.Deep.add_add,hcell,hv]
end
end Go.Own
namespace Go.Proofs.YtkpppjhbmnfmkaaGreatDoor
open Go.RowKit Go.Own Go.ChangeShapes Go.WideShapes Go.ChangeAt Go.Own.Hd Go.Proofs.YtkpppjhbmnfmkaaGreatDoor.H6 Go.Deep
variable {H:Type} {enc:TypeId×Value->H} {w:World} {base:Nat} {spare:Nat->Bool} {held:Bool}
theorem weightsAll_mem {P:Program} {e:TypeId}:∀{l:List (DataW H)} {d:DataW H},d∈l->∀n∈d.weights P e,n∈DataW.weightsAll P e l
 |[],_,h=>by cases h
 |x::l,d,h=>λn hn=>by
  simp only[DataW.weightsAll,List.mem_append];rcases List.mem_cons.1 h with rfl|h
  · exact .inl hn
  · exact .inr (weightsAll_mem h n hn)
theorem hdrs_z {a:Option Addr} {len cap:Nat} {d:DataW H} {p:List MemPlace} (h:DataW.Trod enc Tryz.prog w base spare held 41 (.slice a len cap) d p) (hs:∀n∈d.weights Tryz.prog 41,n<=reachBytes):
 ∃l,H6.Hr w a len l/\len<=cap/\∀x∈l,x.name.size<=140737488355328/\x.value.size<=140737488355328:=by
 obtain⟨fuel,hf⟩:=h;rcases open_slice_fields Tryz.underlying41 Tryz.underlying63 (by kernel_rfl) (by kernel_rfl) hf with⟨hcs,_⟩|⟨x,l,c,m,D,Pl,hcs,_,hl,hm,hmm,hd,hx⟩
 · simp[Value.cells]at hcs
   obtain⟨rfl,rfl,rfl⟩:=hcs;exact⟨[],⟨rfl,λj u hu=>by simp[hcells]at hu⟩,Nat.le_refl _,λx hx=>by cases hx⟩
 · simp[Value.cells]at hcs
   obtain⟨rfl,rfl,rfl⟩:=hcs;have hle:len<=m:=by rw[hmm];split<;>omega
   have hd':d= .slice ((List.range len).map D) ((List.range (m-len)).map λj=>D (len+j)):=congrArg Prod.fst hd;have each:∀i,i<len->∃o:HdrV,w.cell? (x.add (i*3))=some (.string o.name)/\w.cell? (x.add (i*3+1))=some (.string o.value)/\w.cell? (x.add (i*3+2))=some (.bool o.never)/\o.name.size<=140737488355328/\o.value.size<=140737488355328:=by
    intro i hi;have hmem:D i∈(List.range len).map D:=List.mem_map.2 ⟨i,List.mem_range.2 hi,rfl⟩;obtain⟨ys,n,hD,_,hyl,hfi⟩:=hx i (by omega);obtain⟨v0,y0,hc0,hy0,ht0⟩:=hfi 0 _ rfl;obtain⟨v1,y1,hc1,hy1,ht1⟩:=hfi 1 _ rfl;obtain⟨v2,y2,hc2,_,ht2⟩:=hfi 2 _ rfl;obtain⟨s0,e0,rfl,_⟩:=DataW.trod_string Tryz.underlying9 ht0;obtain⟨s1,e1,rfl,_⟩:=DataW.trod_string Tryz.underlying9 ht1;obtain⟨b2,e2,rfl⟩:=DataW.trod_bool Tryz.underlying4 ht2;simp at e0 e1 e2;subst e0 e1 e2;have hw:∀n∈(D i).weights Tryz.prog 63,n<=reachBytes:=λn hn=>hs n (by
     rw[hd'];simp only[DataW.weights,Tryz.underlying41,List.mem_cons,List.mem_append];exact .inr (.inl (weightsAll_mem hmem n hn)))
    have h0:s0.size<=reachBytes:=by
     have e9:s0.data.toList.length=s0.size:=by simp
     rw[<-e9];refine hw _ ?_;rw[hD];simp only[DataW.weights,Tryz.underlying63];exact DataW.weights_mem_each (j:=0) (t:=9) rfl (by rw[List.getElem?_map,hy0];rfl) _ (by simp[DataW.weights])
    have h1:s1.size<=reachBytes:=by
     have e9:s1.data.toList.length=s1.size:=by simp
     rw[<-e9];refine hw _ ?_;rw[hD];simp only[DataW.weights,Tryz.underlying63];exact DataW.weights_mem_each (j:=1) (t:=9) rfl (by rw[List.getElem?_map,hy1];rfl) _ (by simp[DataW.weights])
    have hr:reachBytes<140737488355328:=by decide
    exact⟨⟨s0,s1,b2⟩,by simpa using hc0,hc1,hc2,by show s0.size<=_;omega,by show s1.size<=_;omega⟩
   have:Inhabited HdrV:=⟨⟨⟨#[]⟩,⟨#[]⟩,false⟩⟩;obtain⟨O,hO⟩:=Go.Deep.choose_lt (α:=HdrV) each;refine⟨(List.range len).map O,⟨by simp,λj u hu=>?_⟩,hl,λy hy=>by
    obtain⟨i,hi,rfl⟩:=List.mem_map.1 hy;exact(hO i (List.mem_range.1 hi)).2.2.2⟩
   have hj:=(List.getElem?_eq_some_iff.1 hu).1;rw[hcells_len]at hj;simp at hj;have hk:j/3<len:=by omega
   have hat:=hcells_at ((List.range len).map O) (j/3) (by simpa using hk);simp only[List.getElem_map,List.getElem_range]at hat;obtain⟨c0,c1,c2,_⟩:=hO (j/3) hk;have hblk:=World.block_lt_of_cell? w _ c0;rw[add_block]at hblk;refine⟨x,rfl,hblk,?_⟩;have h3:j=j/3*3\/j=j/3*3+1\/j=j/3*3+2:=by omega
   rcases h3 with e|e|e
   · rw[e]at hu ⊢;rw[hat.1]at hu;cases hu;exact c0
   · rw[e]at hu ⊢;rw[hat.2.1]at hu;cases hu;exact c1
   · rw[e]at hu ⊢;rw[hat.2.2]at hu;cases hu;exact c2
variable {a1 a2:Addr}
open Go.Own.Cx Go.Own.Fr in
theorem connHeads_any (W:World) (hE:EnvS W a1 a2) (fin:Bool) (cut pad st:Int) (A:Option Addr) (n c:Nat) (l:List HdrV) (hr:H6.Hr W A n l) (hc:n<=c) (hz:∀x∈l,x.name.size<=140737488355328/\x.value.size<=140737488355328):
 Calls Tryz.prog 5 #[.slice A n c,.bool fin,.int .i64 cut,.int .i64 pad,.int .i64 st] W λe w'=>e= .returned (.bool true)/\Below W.heap.size W w':=by
 rcases Nat.lt_or_ge 50 n with h|h
 · exact heads_many W hE.wd fin cut pad st A n c h
 · rcases Nat.lt_or_ge 12000 (hszs l)with h2|h2
   · exact heads_much W hE.wd fin cut pad st A n c l hr h hz h2
   · obtain⟨p,hp31,hp⟩:=and_mask pad 31 (by decide)
     obtain⟨s,hs1023,hs⟩:=and_mask st 1023 (by decide);exact heads_small W hE fin cut pad st p s hp hp31 hs hs1023 A n c l hr hc h h2
end Go.Proofs.YtkpppjhbmnfmkaaGreatDoor
