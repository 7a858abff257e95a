/-
  
  
  
-/
import Derived.Test.YtkpppjhbmnfmkaaGreatDoorDb
import Derived.Test.YtkpppjhbmnfmkaaGreatDoorJas
import Derived.Test.YtkpppjhbmnfmkaaGreatDoorJau
import Derived.Test.YtkpppjhbmnfmkaaGreatDoorJag
import Derived.Test.YtkpppjhbmnfmkaaGreatDoorJav
import Derived.Test.YtkpppjhbmnfmkaaGreatDoorJaf
import Derived.Test.YtkpppjhbmnfmkaaGreatDoorJam
import Derived.Test.YtkpppjhbmnfmkaaGreatDoorJay
import Derived.BigQuiet
import Derived.Deep.RegionHeld3
set_option linter.unusedSimpArgs false
set_option linter.unusedVariables false
section
namespace Go.Proofs.YtkpppjhbmnfmkaaGreatDoor
open Go.RowKit Go.Own Go.Own.Im Go.Own.Cx Go.Own.Fr Go.Own.Hd
def dfl (fin:Bool):Nat:=if fin then 9 else 8
def padB (pad:Nat) (l:List UInt8):List UInt8:=UInt8.ofNat pad::(l++List.replicate pad 0)
theorem padB_len (pad:Nat) (l:List UInt8):(padB pad l).length=1+l.length+pad:=by simp[padB];omega
theorem pad_nat (pad:Nat) (h:pad<=63):(UInt8.ofNat pad).toNat=pad:=by
 rw[UInt8.toNat_ofNat_of_lt' (by show pad<256;omega)]
end Go.Proofs.YtkpppjhbmnfmkaaGreatDoor
end

section
namespace Go.Proofs.YtkpppjhbmnfmkaaGreatDoor
open Go.RowKit Go.Own Go.Own.Im Go.Own.Cx Go.Own.Fr Go.Own.Hd
theorem srt_one {M:Cv} {s:Sv} (h:M.strs=[s]):(M.strs.map (·.id)).Pairwise (·<·):=by
 rw[h];exact List.pairwise_singleton _ _
end Go.Proofs.YtkpppjhbmnfmkaaGreatDoor
end

section
namespace Go.Proofs.YtkpppjhbmnfmkaaGreatDoor
open Go.RowKit Go.Own Go.Own.Im Go.Own.Cx Go.Own.Fr Go.Own.Hd
theorem one_mem {M:Cv} {s:Sv} (h:M.strs=[s]) {P:Sv->Prop} (hp:P s):∀x∈M.strs,P x:=by
 intro x hx;rw[h]at hx;rw[List.mem_singleton.1 hx];exact hp
theorem oz_one (W:World) (p:Nat) (h:p<=63):Oz (W.alloc (.cells #[.int .u8 (p:Int)] 5)) (λg=>W.heap.size<=g) (.slice (some ⟨W.heap.size,0,none⟩) 1 1) [UInt8.ofNat p]:=by
 have e:(([UInt8.ofNat p].map bv).toArray:Array Value)= #[.int .u8 (p:Int)]:=by
  show #[Value.int .u8 ((UInt8.ofNat p).toNat:Int)]=_;rw[pad_nat p h]
 have h1:=Ow.lit W 5 [UInt8.ofNat p] (show 1<=1000 by decide);rw[e]at h1;exact Oz.of_ow h1 (λg e=>by have e:some W.heap.size=some g:=e;injection e with e;omega)
theorem num_rd (n:Nat) (w:World) (hn:n<4294967296):
 Calls Tryz.prog 17 #[.int .i64 (n:Nat)] w λe w'=>e= .returned (.slice (some ⟨w.heap.size,0,none⟩) 4 4)/\Rd w' w'.heap.size (some ⟨w.heap.size,0,none⟩) 4 (be n 4)/\Below w.heap.size w w':=by
 refine(lawNumber_any n w hn).mono ?_;rintro e w9 ⟨rfl,h1,h2⟩;have h0:w.heap.size<w9.heap.size:=by
  obtain⟨ad2,e2,h3,hc⟩:=h1.2 (by decide);injection e2 with e2
  subst e2;exact(World.block_lt_of_cell? w9 _ (hc 0 (by decide)))
 exact⟨rfl,h1.more h0,h2⟩
theorem oz_fed2 {w w':World} {ow ow':Nat->Tg} {B:Nat} {v:Value} {l:List UInt8} (h:Oz w (λg=>B<=g/\ow g= .no) v l) (hf:Fr w ow w' ow'):Oz w' (λg=>B<=g/\ow' g= .no) v l:=
 h.turn (λg h0 ho=>⟨hf.keep g h0 ho.2,ho.1,hf.no g h0 ho.2⟩) hf.size
theorem fr_grownNew {w w1 w2:World} {ow ow1:Nat->Tg} {row:Option Nat} (h:Fr w ow w1 ow1) (hg:w1.grownBy w2 row) (hr:∀g,row=some g->w.heap.size<=g):Fr w ow w2 ow1:=
 ⟨hg.os.trans h.os,hg.tape.trans h.tape,hg.output.trans h.output,Nat.le_trans h.size hg.size,λg h0 ho=>(hg.block g (Nat.lt_of_lt_of_le h0 h.size) (λe=>by have:=hr g e.symm;omega)).trans (h.keep g h0 ho),h.no⟩
theorem cn_aside {w w2:World} {ow:Nat->Tg} {b:Nat} {M:Cv} {L:Lay} {row:Option Nat} (h:CN w ow b M L) (hg:w.grownBy w2 row) (hr:∀g,row=some g->ow g= .no):CN w2 ow b M L:=
 h.keep hg.size λg hn h0=>hg.block g h0 (λe=>hn (hr g e.symm))
structure EvAt (w:World) (ow:Nat->Tg) (ad:Addr) (fin:Bool) (A:Option Addr) (n c:Nat) (l:List UInt8):Prop where
 a0:w.cell? ad=some (.int .i64 2)
 a1:w.cell? ⟨ad.block,ad.off+1,none⟩=some (.int .i64 1)
 a4:w.cell? ⟨ad.block,ad.off+4,none⟩=some (.bool fin)
 a6:w.cell? ⟨ad.block,ad.off+6,none⟩=some (.slice A n c)
 rd:Rd w w.heap.size A n l
 no:ow ad.block= .no
 nr:0<n->∀g,A=some g->ow g.block= .no
end Go.Proofs.YtkpppjhbmnfmkaaGreatDoor
end
