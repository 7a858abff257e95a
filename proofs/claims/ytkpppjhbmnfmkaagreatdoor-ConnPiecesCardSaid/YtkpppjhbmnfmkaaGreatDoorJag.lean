/-
  
  
  
-/
import Derived.Test.YtkpppjhbmnfmkaaGreatDoorFq
import Derived.Test.YtkpppjhbmnfmkaaGreatDoorJab
set_option linter.unusedSimpArgs false
set_option linter.unusedVariables false
section
set_option maxHeartbeats 1000000
namespace Go.Proofs.YtkpppjhbmnfmkaaGreatDoor
open Go.RowKit Go.Own Go.Own.Fr Go.Own.Im
theorem enter_rest:Enters Tryz.prog 175:=enters_of Tryz.func175 (by kernel_rfl) rfl
theorem enter_heads:Enters Tryz.prog 177:=enters_of Tryz.func177 (by kernel_rfl) rfl
theorem enter_away:Enters Tryz.prog 189:=enters_of Tryz.func189 (by kernel_rfl) rfl
theorem enter_exact:Enters Tryz.prog 215:=enters_of Tryz.func215 (by kernel_rfl) rfl
theorem enter_reset:Enters Tryz.prog 183:=enters_of Tryz.func183 (by kernel_rfl) rfl
theorem enter_window:Enters Tryz.prog 191:=enters_of Tryz.func191 (by kernel_rfl) rfl
theorem open_plain (t f s:Nat) (A:Option Addr) (n c B:Nat) (l:List UInt8) (W:World) (hr:Rd W B A n l) (hB:B<=W.heap.size) (hc:n<=c) (hn:n<=1000000000) (ht:t<=255) (hf:f<=255) (hs:s<=2147483647) (hp:hasF t f 8=false)
 (hk:t≠2/\t≠4/\t≠5/\(t=1->hasF t f 32=false)):
 Calls Tryz.prog 104 #[.agg #[.int .i64 (t:Nat),.int .i64 (f:Nat),.int .i64 (s:Nat),.slice A n c]] W (OpPost W t f s l):=by
 have hl:=hr.1;refine open_any t f s A n c B l W hr hB ht hf hs hp λW' g g3 g6 g8 hb hE hI hg=>?_;have h0:Rd W' W.heap.size A n l:=(hr.more hB).below hb;have h1:W.heap.size<=W'.heap.size:=hb.size;obtain⟨k2,k4,k5,k1⟩:=hk;have h2:t=0\/t=1\/t=3\/t=6\/t=7\/t=8\/t=9\/¬t<=9:=by omega
 rcases h2 with rfl|rfl|rfl|rfl|rfl|rfl|rfl|h9
 · exact⟨_,#[],rfl,enter_rest,rest_rd g _ A n c _ l W' hI h0 h1 (by omega) rfl rfl⟩
 · exact⟨_,#[],rfl,enter_heads,rdHeads g _ A n c _ l W' hI h0 h1 (by omega) rfl (k1 rfl) rfl⟩
 · refine⟨_,_,rfl,enter_exact,exact_any g g3 4 183 _ A n c _ l W' enter_reset hE.1 h0 (λh=>?_) (λh=>?_)⟩
   · show(if l.length=4 then _ else _)=_
     rw[if_neg (by omega)]
   · subst h
     exact rdReset g _ A c _ l W' hI h0 rfl ⟨rfl,rfl⟩
 · refine⟨_,_,rfl,enter_exact,exact_any g g6 8 175 _ A n c _ l W' enter_rest hE.2.1 h0 (λh=>?_) (λh=>?_)⟩
   · show(if l.length=8 then _ else _)=_
     rw[if_neg (by omega)]
   · refine rest_rd g _ A n c _ l W' hI h0 h1 (by omega) rfl ?_
     show(if l.length=8 then _ else _)=_;rw[if_pos (by omega)]
 · exact⟨_,#[],rfl,enter_away,rdAway g _ A n c _ l W' hI h0 h1 hc (by omega) rfl rfl⟩
 · refine⟨_,_,rfl,enter_exact,exact_any g g8 4 191 _ A n c _ l W' enter_window hE.2.2 h0 (λh=>?_) (λh=>?_)⟩
   · show(if l.length=4 then _ else _)=_
     rw[if_neg (by omega)]
   · subst h
     exact rdWindow g _ A c _ l W' hI h0 rfl ⟨rfl,rfl⟩
 · exact⟨_,#[],rfl,enter_rest,rest_rd g _ A n c _ l W' hI h0 h1 (by omega) rfl rfl⟩
 · refine⟨_,#[],rdV_big g3 g6 g8 t h9,enter_rest,rest_rd g _ A n c _ l W' hI h0 h1 (by omega) rfl ?_⟩
   unfold rd
   split<;>first|(rename_i h;have:(info0 t f s).typ=t:=rfl;omega)|rfl
end Go.Proofs.YtkpppjhbmnfmkaaGreatDoor
end

section
namespace Go.Own
open Go.RowKit
theorem run_subZ {P:Program} {t e:TypeId} (hP:ByteP P t e) (A:Option Addr) (n c k u:Nat) (hk:k+u<=n) (hc:n<=c) (W:World):
 (Instr.slice t (.slice A n c) (some (.int .i64 (k:Int))) (some (.int .i64 (((k+u:Nat)):Int))) none).run P W= .ok (.slice (if c=k then A else A.map λx=>x.add k) u (c-k)) W:=by
 obtain⟨i,hi,hz,h1,h2⟩:=hP.info;simp[Instr.slice,run_underlying hP.slice,Instr.sliceBounds,run_sliceBound,sizeOf,typeInfo,hi,h1,Result.andThen,show k<=k+u by omega,show(k:Int)<=(k+u:Nat)by omega,show((k+u:Nat):Int)<=c by omega,-Int.natCast_add]
theorem wsub (n p:Nat) (h:p<n) (hn:n<=1000000):wrap64 ((n:Int)-(p:Int))=(n:Int)-(p:Int):=by unfold wrap64;omega
theorem wnat (p:Nat) (h:p<=255):wrap64 (p:Int)=(p:Int)/\IntKind.i64.wrap (p:Int)=(p:Int):=⟨by unfold wrap64;omega,by rw[IntKind.wrap_i64];omega⟩
theorem cut_subZ {P:Program} {t e:TypeId} (hP:ByteP P t e) {w:World} {B n c k u:Nat} {A:Option Addr} {l:List UInt8} (h:Rd w B A n l) (hk:k+u<=n) (hc:n<=c) (x y:Int) (hx:x=(k:Int)) (hy:y=((k+u:Nat):Int)):
 ∃A',Rd w B A' u ((l.drop k).take u)/\∀W:World,(Instr.slice t (.slice A n c) (some (.int .i64 x)) (some (.int .i64 y)) none).run P W= .ok (.slice A' u (c-k)) W:=
 ⟨_,h.sub hk hc,λW=>by rw[hx,hy];exact run_subZ hP A n c k u hk hc W⟩
end Go.Own
namespace Go.Proofs.YtkpppjhbmnfmkaaGreatDoor
open Go.RowKit Go.Own Go.Own.Fr Go.Own.Im
end Go.Proofs.YtkpppjhbmnfmkaaGreatDoor
end

section
namespace Go.Proofs.YtkpppjhbmnfmkaaGreatDoor
open Go.RowKit Go.Own Go.Own.Fr Go.Own.Im
end Go.Proofs.YtkpppjhbmnfmkaaGreatDoor
end
