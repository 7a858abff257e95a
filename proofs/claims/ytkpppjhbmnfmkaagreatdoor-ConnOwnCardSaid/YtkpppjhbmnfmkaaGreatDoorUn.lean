import Derived.Test.YtkpppjhbmnfmkaaGreatDoorJau
import Derived.Test.YtkpppjhbmnfmkaaGreatDoorJaa
import Derived.Test.YtkpppjhbmnfmkaaGreatDoorAm
import Derived.Deep.Slices
import Derived.Deep.Fields
import Derived.ChangeSame
import Derived.ProofKit
import Derived.OpenShut
import Derived.Lib.SmallJoins
set_option linter.unusedSimpArgs false
set_option linter.unusedVariables false
set_option maxRecDepth 100000
namespace Go.Own
open Go.ChangeShapes Go.WideShapes Go.Deep
section
variable {H:Type} {enc:TypeId×Value->H} {P:Program} {w:World} {base:Nat} {spare:Nat->Bool} {held:Bool}
theorem open_slice_fields {t e:TypeId} {fs:Array Field} {fuel:Nat} {cs:List Value} {x:DataW H×List MemPlace} (ht:P.underlying t=some (.slice e)) (he:P.underlying e=some (.struct fs))
 (h4:oneCellFields P fs=true) (hC:P.cellsOf e=fs.size) (h:DataW.trod enc P w base spare held fuel t cs=some x):
 (cs=[.slice none 0 0]/\x=(.nil,[]))\/
 ∃(a:Addr) (len cap m:Nat) (D:Nat->DataW H) (Pl:Nat->List MemPlace),cs=[.slice (some a) len cap]/\base<=a.block/\len<=cap/\cap<=maxLen/\m=(if spare a.block then cap else len)/\
  x=(.slice ((List.range len).map D) ((List.range (m-len)).map λj=>D (len+j)),MemPlace.row a (m*fs.size)++(List.range m).flatMap Pl)/\
  ∀i,i<m->∃(ys:List (DataW H×List MemPlace)) (n:Nat),D i= .agg (ys.map (·.1))/\Pl i=ys.flatMap (·.2)/\ys.length=fs.size/\
   ∀(j:Nat) (f:Field),fs[j]?=some f->∃(v:Value) (y:DataW H×List MemPlace),w.cell? (a.add (i*fs.size+j))=some v/\ys[j]?=some y/\DataW.trod enc P w base spare held n f.type [v]=some y:=by
 rcases open_slice ht h with h0|⟨a,len,cap,m,n,D,Pl,h6,hb,hl,hm,h7,hx,hi⟩
 · exact .inl h0
 · refine .inr ⟨a,len,cap,m,D,Pl,h6,hb,hl,hm,h7,by rw[hC]at hx;exact hx,λi h8=>?_⟩
   obtain⟨cs',hc,h9⟩:=hi i h8;rw[hC]at hc;obtain⟨ys,n',hu,hy,hq,hd,hf⟩:=DataW.trod_struct he h9;obtain⟨_,hw,hh⟩:=World.cells?_some hc;simp only[Prod.mk.injEq]at hy;refine⟨ys,n',hy.1,hy.2,hd,λj f hj=>?_⟩;obtain⟨ho,hk⟩:=hone_of h4 j f hj;have hn:j<fs.size:=(Array.getElem?_eq_some_iff.1 hj).1;have hcell:=hh j hn;have hv:cs'[j]?=some (cs'[j]'(by omega)):=List.getElem?_eq_getElem (by omega);have h1:=hf j f hj;rw[ho,hk]at h1;have h2:(cs'.drop j).take 1=[cs'[j]'(by omega)]:=by
    rw[List.drop_eq_getElem_cons (by omega)]
    rfl
   rw[h2]at h1;have h5:ys[j]?=some (ys[j]'(by omega)):=List.getElem?_eq_getElem (by omega);refine⟨_,_,?_,h5,h1.trans h5⟩;rw[<-Go.Deep.add_add,hcell,hv]
end
end Go.Own
namespace Go.Proofs.YtkpppjhbmnfmkaaGreatDoor
open Go.RowKit Go.Own Go.ChangeShapes Go.WideShapes Go.ChangeAt Go.Own.Hd Go.Proofs.YtkpppjhbmnfmkaaGreatDoor.H6 Go.Deep
variable {H:Type} {enc:TypeId×Value->H} {w:World} {base:Nat} {spare:Nat->Bool} {held:Bool}
theorem hdrs_any {a:Option Addr} {len cap:Nat} {d:DataW H} {p:List MemPlace} (h:DataW.Trod enc Tryz.prog w base spare held 41 (.slice a len cap) d p):
 ∃l,H6.Hr w a len l/\len<=cap:=by
 obtain⟨fuel,hf⟩:=h;rcases open_slice_fields Tryz.underlying41 Tryz.underlying63 (by kernel_rfl) (by kernel_rfl) hf with⟨h0,_⟩|⟨x,l,c,m,D,Pl,h0,_,hl,hm,h5,hd,hx⟩
 · simp[Value.cells]at h0
   obtain⟨rfl,rfl,rfl⟩:=h0;exact⟨[],⟨rfl,λj u hu=>by simp[hcells]at hu⟩,Nat.le_refl _⟩
 · simp[Value.cells]at h0
   obtain⟨rfl,rfl,rfl⟩:=h0;have he:len<=m:=by rw[h5];split<;>omega
   have each:∀i,i<len->∃o:HdrV,w.cell? (x.add (i*3))=some (.string o.name)/\w.cell? (x.add (i*3+1))=some (.string o.value)/\w.cell? (x.add (i*3+2))=some (.bool o.never):=by
    intro i hi;obtain⟨ys,n,hD,_,hh,h4⟩:=hx i (by omega);obtain⟨v0,y0,h6,hn,h7⟩:=h4 0 _ rfl;obtain⟨v1,y1,h8,ho,h9⟩:=h4 1 _ rfl;obtain⟨v2,y2,hb,_,hc⟩:=h4 2 _ rfl;obtain⟨s0,e0,rfl,_⟩:=DataW.trod_string Tryz.underlying9 h7;obtain⟨s1,e1,rfl,_⟩:=DataW.trod_string Tryz.underlying9 h9;obtain⟨b2,e2,rfl⟩:=DataW.trod_bool Tryz.underlying4 hc;simp at e0 e1 e2;subst e0 e1 e2;exact⟨⟨s0,s1,b2⟩,by simpa using h6,h8,hb⟩
   have:Inhabited HdrV:=⟨⟨⟨#[]⟩,⟨#[]⟩,false⟩⟩;obtain⟨O,hO⟩:=Go.Deep.choose_lt (α:=HdrV) each;refine⟨(List.range len).map O,⟨by simp,λj u hu=>?_⟩,hl⟩;have hj:=(List.getElem?_eq_some_iff.1 hu).1;rw[hcells_len]at hj;simp at hj;have hk:j/3<len:=by omega
   have h2:=hcells_at ((List.range len).map O) (j/3) (by simpa using hk);simp only[List.getElem_map,List.getElem_range]at h2;obtain⟨c0,c1,c2⟩:=hO (j/3) hk;have h1:=World.block_lt_of_cell? w _ c0;rw[add_block]at h1;refine⟨x,rfl,h1,?_⟩;have h3:j=j/3*3\/j=j/3*3+1\/j=j/3*3+2:=by omega
   rcases h3 with e|e|e
   · rw[e]at hu ⊢;rw[h2.1]at hu;cases hu;exact c0
   · rw[e]at hu ⊢;rw[h2.2.1]at hu;cases hu;exact c1
   · rw[e]at hu ⊢;rw[h2.2.2]at hu;cases hu;exact c2
open Go.Own.Cx Go.Own.Fr in
theorem connOwn_any (W:World) (hE:EnvW W) (A:Option Addr) (n c:Nat) (p:List UInt8) (hp:Rd W W.heap.size A n p) (A2:Option Addr) (m c2:Nat) (l:List HdrV) (hl:H6.Hr W A2 m l):
 Calls Tryz.prog 6 #[.slice A n c,.slice A2 m c2] W λe w'=>e= .returned (.bool true)/\Below W.heap.size W w':=by
 by_cases h:8000<n\/20<m
 · exact own_big W hE A n c A2 m c2 h
 · exact own_small W hE A n c p hp (by omega) A2 m c2 l hl (by omega)
end Go.Proofs.YtkpppjhbmnfmkaaGreatDoor
