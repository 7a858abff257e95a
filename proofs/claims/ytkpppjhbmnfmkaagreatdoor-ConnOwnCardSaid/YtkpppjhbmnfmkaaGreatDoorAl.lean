import Derived.Test.YtkpppjhbmnfmkaaGreatDoorAk
import Derived.Test.YtkpppjhbmnfmkaaGreatDoorJau
import Derived.Test.YtkpppjhbmnfmkaaGreatDoorJag
import Derived.Test.YtkpppjhbmnfmkaaGreatDoorJab
import Derived.Test.YtkpppjhbmnfmkaaGreatDoorJad
set_option linter.unusedSimpArgs false
set_option linter.unusedVariables false
set_option maxHeartbeats 1000000
namespace Go.Proofs.YtkpppjhbmnfmkaaGreatDoor
open Lib (hid)
open Go.RowKit Go.Own Go.Own.Im Go.Own.Cx Go.Own.Fr Go.Own.Hd
def WC (w:World) (A:Option Addr) (k n:Nat):Prop:=∀j,j<n->∃ad v,A=some ad/\w.cell? (ad.add (j*k))=some v/\w.frozen? (ad.add (j*k))=false
theorem WC.set {w:World} {A:Option Addr} {k n:Nat} (h:WC w A k n) (p:Addr) (u:Value):WC (w.setCell p u) A k n:=λj hj=>by
 obtain⟨ad,v,h1,h2,h3⟩:=h j hj;by_cases e:p=ad.add (j*k)
 · subst e
   exact⟨ad,u,h1,World.cell?_setCell_same _ _ _ h2,by rw[World.frozen?_setCell];exact h3⟩
 · exact⟨ad,v,h1,(World.cell?_setCell_other _ _ _ _ e).trans h2,by rw[World.frozen?_setCell];exact h3⟩
theorem WC.of_rd {w:World} {A:Option Addr} {B n:Nat} {l:List UInt8} (h:Rd w B A n l) (hu:∀ad,A=some ad->UF w ad.block):WC w A 1 n:=λj hj=>by
 obtain⟨ad,e,_,hc⟩:=h.2 (by omega);refine⟨ad,_,e,by rw[Nat.mul_one];exact hc j hj,?_⟩;rw[Nat.mul_one];have h9:=hu ad e (ad.add j).off;unfold World.frozen? at h9 ⊢;rw[add_block];exact h9
theorem WC.of_hw {w:World} {base n c:Nat} {A:Option Addr} {l:List HdrV} (h:H6.Hw w base (.slice A n c) l):WC w A 3 n:=λj hj=>by
 have hl:l.length=n:=by
  obtain⟨A',c',e,_⟩:=h.form;injection e with _ e _
  exact e.symm
 subst hl;obtain⟨ad,e,h0,_⟩:=h.hr.at_ (k:=j) hj;refine⟨ad,_,e,h0,?_⟩;rcases h.2 with⟨e1,_⟩|⟨g,cap,cur,e1,_,hg,_⟩
 · injection e1 with e1;rw[e]at e1;cases e1
 · injection e1 with e1
   rw[e]at e1;injection e1 with e1
   subst e1;rw[Addr.add_lit];simp[World.frozen?,hg]
structure Duo (w0 w:World) (oc:Nat->Tg) (bc:Nat) (Mc:Cv) (Lc:Lay) (os:Nat->Tg) (bs:Nat) (Ms:Cv) (Ls:Lay):Prop where
 c:CN w oc bc Mc Lc
 s:CN w os bs Ms Ls
 dis:∀g,os g≠ .no->oc g= .no
 old:∀g,g<w0.heap.size->oc g= .no/\os g= .no
 b:Below w0.heap.size w0 w
section
variable {w0 w w':World} {oc oc' os os':Nat->Tg} {bc bs:Nat} {Mc Mc' Ms Ms':Cv} {Lc Lc' Ls Ls':Lay}
theorem Duo.cstep (h:Duo w0 w oc bc Mc Lc os bs Ms Ls) (hc:CN w' oc' bc Mc' Lc') (hf:Fr w oc w' oc'):Duo w0 w' oc' bc Mc' Lc' os bs Ms Ls:=by
 have h0:∀g,os g≠ .no->g<w.heap.size:=λg hg=>by
  rcases Nat.lt_or_ge g w.heap.size with h1|h1
  · exact h1
  · exact absurd (h.s.new g h1) hg
 refine⟨hc,h.s.keep hf.size λg hn hl=>hf.keep g hl (h.dis g hn),λg hg=>hf.no g (h0 g hg) (h.dis g hg),λg hg=>⟨hf.no g (Nat.lt_of_lt_of_le hg h.b.size) (h.old g hg).1,(h.old g hg).2⟩,?_⟩;exact hf.toBelow h.b λg hg=>(h.old g hg).1
theorem Duo.below (h:Duo w0 w oc bc Mc Lc os bs Ms Ls) (hb:Below w.heap.size w w'):Duo w0 w' oc bc Mc Lc os bs Ms Ls:=
 ⟨h.c.below hb,h.s.below hb,h.dis,h.old,h.b.trans (hb.mono h.b.size)⟩
theorem Duo.user (h:Duo w0 w oc bc Mc Lc os bs Ms Ls) {g:Nat} (hg:w.grownBy w' (some g)) (h0:w0.heap.size<=g) (hc:oc g= .no) (hs:os g= .no):Duo w0 w' oc bc Mc Lc os bs Ms Ls:=
 ⟨h.c.keep hg.size λj hn hl=>hg.block j hl (λe=>by injection e with e;subst e;exact hn hc),h.s.keep hg.size λj hn hl=>hg.block j hl (λe=>by injection e with e;subst e;exact hn hs),h.dis,h.old,
   ⟨hg.os.trans h.b.os,hg.tape.trans h.b.tape,hg.output.trans h.b.output,Nat.le_trans h.b.size hg.size,λj hj=>(hg.block j (Nat.lt_of_lt_of_le hj h.b.size) (λe=>by injection e with e;omega)).trans (h.b.block j hj)⟩⟩
end
theorem postH_any (w:World):Calls Tryz.prog 28 #[] w λe w'=>e= .returned (.slice (some ⟨w.heap.size,0,none⟩) 3 3)/\H6.Hw w' w.heap.size (.slice (some ⟨w.heap.size,0,none⟩) 3 3) hs3/\Below w.heap.size w w':=by
 have HB:=hid ((Below.refl w.heap.size w).alloc (Nat.le_refl _) (.cells (H6.hcells hs3).toArray 63));have HE:=hid (H6.hw_lit w hs3 (by decide));rw[show(H6.hcells hs3).toArray= #[.string ⟨#[58,109,101,116,104,111,100]⟩,.string ⟨#[80,79,83,84]⟩,.bool false,.string ⟨#[58,115,99,104,101,109,101]⟩,.string ⟨#[104,116,116,112]⟩,.bool false,.string ⟨#[58,112,97,116,104]⟩,.string ⟨#[47]⟩,.bool false]from rfl]at HB HE;go_enter Tryz.func28,Tryz.ntmps28;go_wp2;go_ret;exact⟨rfl,HE.out,HB.out⟩
end Go.Proofs.YtkpppjhbmnfmkaaGreatDoor
