/-
  
  
  
-/
import Derived.Test.YtkpppjhbmnfmkaaGreatDoorJaa
import Derived.Laws.Rows
import Derived.Laws.Tables
import Derived.Laws.World
import Derived.BigFrame
import Derived.Test.YtkpppjhbmnfmkaaGreatDoorProg
import Derived.Test.YtkpppjhbmnfmkaaGreatDoorHf
import Derived.LoopTactic
import Derived.Deep.CutBlock
import Derived.Scope
import Derived.WalkMore
import Derived.Deep.WholeRow
set_option linter.unusedSimpArgs false
set_option linter.unusedVariables false
section
namespace Go.Own
open Go Go.RowKit
section
variable {P:Program}
theorem run_storeAt_row (w:World) (g:Nat) (t ty:TypeId) (old cells:Array Value) (hb:Blk w g t old) (hi:(P.info? ty).map (·.size)=some cells.size) (ho:old.size=cells.size) (h1:cells.all (·.oneCell')=true):
 (Instr.storeAt ty (.pointer (some ⟨g,0,none⟩)) (.agg cells)).run P w= .ok () (w.setRow g cells):=by
 simp only[Instr.storeAt,Instr.sureAddr,Sem.run_bind,Sem.run_pure,Result.andThen];exact run_storeVar_row w g t ty old cells hb hi ho h1
theorem Blk.row {w:World} {g:Nat} {t:TypeId} {old:Array Value} (hb:Blk w g t old) (cells:Array Value):Blk (w.setRow g cells) g t cells:=by
 unfold Blk at hb ⊢;simp[World.setRow,Array.getElem?_modify,hb]
theorem grown_row {w:World} {g:Nat} (cells:Array Value):w.grownBy (w.setRow g cells) (some g):=
 ⟨rfl,rfl,rfl,by simp[World.setRow],λi _ hne=>by
   have h:¬g=i:=λe=>hne (by rw[e]);simp[World.setRow,Array.getElem?_modify,h]⟩
variable {ops:Array Oper} {rest:List Oper} {o:Oper} {a:Act} {Q:Exit->Act->World->Prop}
theorem wpList_rowPut (w:World) (hg:o.guard=none) (p x:Operand) (ty:TypeId) (hop:o.op=Op.store ty p x) (g:Nat) (t:TypeId) (old cells:Array Value) (hp:a.eval p= .pointer (some ⟨g,0,none⟩)) (hx:a.eval x= .agg cells)
 (hb:Blk w g t old) (hi:(P.info? ty).map (·.size)=some cells.size) (ho:old.size=cells.size) (h1:cells.all (·.oneCell')=true)
 (hK:∀w',Blk w' g t cells->w.grownBy w' (some g)->wpList P ops Q rest (a.put o.dst undef) w'):wpList P ops Q (o::rest) a w:=by
 refine wpList_plain hg λK' h2=>?_;have h0:=run_storeAt_row (P:=P) w g t ty old cells hb hi ho h1;unfold Oper.wp;simp[execOp,hop,hp,hx,h0,Result.andThen];exact h2 _ _ (hK _ (hb.row cells) (grown_row cells))
theorem run_loadAt_row (w:World) (g:Nat) (t ty:TypeId) (cells:Array Value) (hb:Blk w g t cells) (d:TypeDesc) (hu:P.underlying ty=some d) (hd:(match d with| .struct _| .array _ _=>true|_=>false)=true) (hi:(P.info? ty).map (·.size)=some cells.size):
 (Instr.loadAt ty (.pointer (some ⟨g,0,none⟩))).run P w= .ok (.agg cells) w:=by
 simp only[Instr.loadAt,Instr.sureAddr,Sem.run_bind,Sem.run_pure,Result.andThen];exact run_loadVar_row w g t ty cells (0,0) d hb hu hd hi
theorem wpList_rowGet (w:World) (hg:o.guard=none) (p:Operand) (ty:TypeId) (hop:o.op=Op.load ty p) (g:Nat) (t:TypeId) (cells:Array Value) (hp:a.eval p= .pointer (some ⟨g,0,none⟩)) (hb:Blk w g t cells) (d:TypeDesc) (hu:P.underlying ty=some d)
 (hd:(match d with| .struct _| .array _ _=>true|_=>false)=true) (hi:(P.info? ty).map (·.size)=some cells.size) (hK:wpList P ops Q rest (a.put o.dst (.agg cells)) w):wpList P ops Q (o::rest) a w:=by
 refine wpList_plain hg λK' h1=>?_;have h0:=run_loadAt_row (P:=P) w g t ty cells hb d hu hd hi;unfold Oper.wp;simp[execOp,hop,hp,h0,Result.andThen];exact h1 _ _ hK
end
end Go.Own
end

section
namespace Go.Own
open Go Go.RowKit
section
variable {P:Program} {ops:Array Oper} {rest:List Oper} {o:Oper} {a:Act} {Q:Exit->Act->World->Prop}
theorem wpList_rowGetW (w:World) (hw:Region.wanted o (yielded ops a.tmps)=true) (p:Operand) (ty:TypeId) (hop:o.op=Op.load ty p) (g:Nat) (t:TypeId) (cells:Array Value) (hp:a.eval p= .pointer (some ⟨g,0,none⟩)) (hb:Blk w g t cells) (d:TypeDesc) (hu:P.underlying ty=some d)
 (hd:(match d with| .struct _| .array _ _=>true|_=>false)=true) (hi:(P.info? ty).map (·.size)=some cells.size) (hK:wpList P ops Q rest (a.put o.dst (.agg cells)) w):wpList P ops Q (o::rest) a w:=by
 refine BigFrame.wpList_want hw λK' h1=>?_;have h0:=run_loadAt_row (P:=P) w g t ty cells hb d hu hd hi;unfold Oper.wp;simp[execOp,hop,hp,h0,Result.andThen];exact h1 _ _ hK
end
end Go.Own
end

section
set_option maxHeartbeats 8000000
set_option maxRecDepth 100000
namespace Go.Proofs.YtkpppjhbmnfmkaaGreatDoor
open Lib (hid)
open Go.RowKit Go.Own Go.Own.Hf
def szS:ByteArray:=⟨(szL.map λn=>UInt8.ofNat (n+60)).toArray⟩
theorem sz_list:szL.all (λn=>Nat.ble 5 n&&Nat.ble n 30)=true:=by kernel_rfl
theorem sz_mem {s:Nat} (hs:s<257):sz s∈szL:=by
 have hl:szL.length=257:=by kernel_rfl
 rw[sz,List.getD,List.getElem?_eq_getElem (by omega)];exact List.getElem_mem _
theorem sz_in {s:Nat} (hs:s<257):5<=sz s/\sz s<=30:=by
 have h:=List.all_eq_true.1 sz_list _ (sz_mem hs);simp only[Bool.and_eq_true]at h;exact⟨Nat.le_of_ble_eq_true h.1,Nat.le_of_ble_eq_true h.2⟩
theorem idx_sz {s:Nat} (hs:s<257) (W:World):(Instr.index 9 (.string szS) (.int .i64 (s:Int))).run Tryz.prog W= .ok (.int .u8 ((sz s+60:Nat):Int)) W:=by
 have hl:szL.length=257:=by kernel_rfl
 have hz:szS.size=257:=by
  show(szL.map λn=>UInt8.ofNat (n+60)).toArray.size=257;rw[List.size_toArray,List.length_map,hl]
 have hk:(s:Int)<(szS.size:Int):=by omega
 have h1:=sz_in hs;have e:szS[s]'(by omega)=UInt8.ofNat (sz s+60):=by
  have h2:sz s=szL[s]'(by omega):=by rw[sz,List.getD,List.getElem?_eq_getElem (by omega)];rfl
  rw[h2];exact List.getElem_map ..
 have e2:(UInt8.ofNat (sz s+60)).toNat=sz s+60:=by
  rw[UInt8.toNat_ofNat'];exact Nat.mod_eq_of_lt (by omega)
 have h0:s<szS.size:=by omega
 have e3:(sz s+60) % 256=sz s+60:=Nat.mod_eq_of_lt (by omega);simp only[Instr.index,run_underlying Tryz.underlying9,asIntOf];simp[h0,e,e2,e3]
theorem szS_lit:szS={data:=(([73,83,88,88,88,88,88,88,88,84,90,88,88,90,88,88,88,88,88,88,88,88,90,88,88,88,88,88,88,88,88,88,66,70,70,72,73,66,68,71,70,70,68,71,68,66,66,66,65,65,65,66,66,66,66,66,66,66,67,68,75,66,72,70].append [73,66,67,67,67,67,67,67,67,67,67,67,67,67,67,67,67,67,67,67,67,67,67,67,68,67,68,73,79,73,74,66,75,65,66,65,66,65,66,66,66,65,67,67,66,66,66,65,66,67,66,65,65,66,67,67,67,67,67,75,71,74,73,88]).append ([80,82,80,80,82,82,82,83,82,83,83,83,83,83,84,83,84,84,82,83,84,83,83,83,83,81,82,83,82,83,83,84,82,81,80,82,82,83,83,81,83,82,82,84,81,82,83,83,81,81,82,81,83,82,83,83,80,82,82,82,83,82,82,83].append ([86,86,80,79,82,83,82,85,86,86,86,87,87,86,84,85,79,81,86,87,87,86,87,84,81,81,86,86,88,87,87,87].append [80,84,80,81,82,81,81,83,82,82,85,85,84,84,86,83,86,87,86,86,87,87,87,87,87,88,87,87,87,87,87,86,90]))).toArray}:=by kernel_rfl
theorem hsizes_any (w:World):Calls Tryz.prog 234 #[] w λe w'=>e= .returned (.string szS)/\w'=w:=by
 rw[szS_lit];go_enter Tryz.func234,Tryz.ntmps234;go_wp2;go_ret;exact⟨rfl,rfl⟩
theorem hbits_any (s:Nat) (hs:s<257) (w:World):Calls Tryz.prog 213 #[.int .i64 (s:Nat)] w λe w'=>e= .returned (.tuple #[.int .i64 (sz s:Nat),.bool true])/\w'=w:=by
 have h0:=idx_sz hs;have h1:=sz_in hs;have HS:=hid (hsizes_any w);have h2:(s:Int)<257:=by omega
 generalize szS=S at*
 generalize sz s=q at*
 have e1:IntKind.u8.wrap (((q+60:Nat):Int)-65)=((q-5:Nat):Int):=by simp[IntKind.wrap,IntKind.bits,IntKind.signed];omega
 have e2:wrap64 (((q-5:Nat):Int)+5)=(q:Int):=by unfold wrap64;omega
 have e3:wrap64 (((q-5:Nat):Int))=((q-5:Nat):Int):=by unfold wrap64;omega
 generalize ((q+60:Nat):Int)=x at*
 generalize ((q-5:Nat):Int)=y at*
 clear hs h1;go_enter Tryz.func213,Tryz.ntmps213;go_wp2_with (first
  |(go_at_call 234
    with_reducible refine Calls.mono HS.out ?_
    rintro e w1 ⟨rfl,hw⟩;subst w1)
  |fail)
 go_ret2;exact⟨by simp[e2,e3],rfl⟩
def fst (b:Nat):Nat:=match b with|0=>0|b+1=>2*(fst b+(szL.filter λn=>Nat.beq n b).length)
def cnt (b s:Nat):Nat:=((szL.take s).filter λn=>Nat.beq n b).length
def nx (b s:Nat):Nat:=fst b+cnt b s
theorem cd_list:(List.range 257).all (λs=>Nat.beq (cd s) (nx (sz s) s))=true:=by kernel_rfl
theorem cd_nx {s:Nat} (hs:s<257):cd s=nx (sz s) s:=Nat.eq_of_beq_eq_true (List.all_eq_true.1 cd_list s (List.mem_range.2 hs))
theorem nx_list:(List.range 31).all (λb=>Nat.ble (nx b 257) 1073741824)=true:=by kernel_rfl
theorem nx_le {b s:Nat} (hb:b<31):nx b s<=1073741824:=by
 have h:=Nat.le_of_ble_eq_true (List.all_eq_true.1 nx_list b (List.mem_range.2 hb));have h2:cnt b s<=cnt b 257:=by
  have e:szL.take 257=szL:=by kernel_rfl
  unfold cnt;rw[e];exact(List.Sublist.filter _ (List.take_sublist s szL)).length_le
 unfold nx at*
 omega
theorem nx_step {b s:Nat} (hs:s<257):nx b (s+1)=nx b s+(if sz s=b then 1 else 0):=by
 have hl:szL.length=257:=by kernel_rfl
 have e:szL[s]?=some (sz s):=by rw[sz,List.getD,List.getElem?_eq_getElem (by omega)];rfl
 unfold nx cnt;rw[List.take_add_one,e,Option.toList,List.filter_append,List.length_append,Nat.add_assoc]
 congr 2
 by_cases h:sz s=b
 · rw[if_pos h,h]
   simp
 · rw[if_neg h]
   have:Nat.beq (sz s) b=false:=by
    cases hq:Nat.beq (sz s) b with
    |false=>rfl
    |true=>exact absurd (Nat.eq_of_beq_eq_true hq) h
   simp[this]
theorem nx_next (b:Nat):nx (b+1) 0=2*nx b 257:=by
 have e:szL.take 257=szL:=by kernel_rfl
 show fst (b+1)+0=2*(fst b+cnt b 257);unfold cnt;rw[e]
 rfl
def Ct (W:World) (pb:Nat) (t:TypeId) (f:Nat->Nat):Prop:=∃cs:Array Value,Blk W pb t cs/\cs.size=257/\∀i,i<257->cs[i]?=some (.int .u32 (f i:Nat))
section
variable {W W':World} {pb:Nat} {t:TypeId} {f:Nat->Nat}
theorem Ct.cell (h:Ct W pb t f) {i:Nat} (hi:i<257):W.cell? ⟨pb,i,none⟩=some (.int .u32 (f i:Nat)):=by
 obtain⟨cs,hb,_,hc⟩:=h;exact(hb.cell i).trans (hc i hi)
theorem Ct.frozen (h:Ct W pb t f) (i:Nat):W.frozen? ⟨pb,i,none⟩=false:=by
 obtain⟨cs,hb,_,hc⟩:=h;exact hb.frozen i
theorem Ct.lt (h:Ct W pb t f):pb<W.heap.size:=by
 obtain⟨cs,hb,_,hc⟩:=h;exact hb.lt
theorem Ct.put (h:Ct W pb t f) (i:Nat) (x:Nat):Ct (W.setCell ⟨pb,i,none⟩ (.int .u32 (x:Nat))) pb t (λj=>if j=i then x else f j):=by
 obtain⟨cs,hb,hs,hc⟩:=h;refine⟨_,hb.put i _,by simp[hs],λj hj=>?_⟩;show _=some (Value.int .u32 ((if j=i then x else f j:Nat):Int));by_cases e:j=i
 · subst e
   simp[hs,hj]
 · rw[if_neg e,Array.getElem?_setIfInBounds_ne (λh=>e h.symm)]
   exact hc j hj
theorem Ct.same {g:Nat->Nat} (h:Ct W pb t f) (e:∀i,i<257->f i=g i):Ct W pb t g:=by
 obtain⟨cs,hb,hs,hc⟩:=h;exact⟨cs,hb,hs,λi hi=>by rw[hc i hi,e i hi]⟩
end
theorem zero_cod:∃Z:Array Value,Z.size=257/\(∀i,i<257->Z[i]?=some (.int .u32 0))/\(∀W,(zeroValue 250).run Tryz.prog W= .ok (.agg Z) W)/\
 ∀w:World,(storeCells ⟨w.heap.size,0,none⟩ Z.toList 0).run Tryz.prog (w.alloc (.cells Z 250))= .ok () (w.alloc (.cells Z 250)):=
 ⟨Array.replicate 257 (.int .u32 0),by simp,λi hi=>by simp[hi],λW=>by kernel_rfl,λw=>run_storeCells_new w _ _ _ (by kernel_rfl) rfl (by kernel_rfl)⟩
def CodV (v:Value):Prop:=∃cs:Array Value,v= .agg cs/\cs.size=257/\∀i,i<257->cs[i]?=some (.int .u32 (cd i:Nat))
def CodPost (w:World) (e:Ending) (w':World):Prop:=∃v,e= .returned v/\CodV v/\Below w.heap.size w w'
def cdF (b s:Nat) (i:Nat):Nat:=if sz i<b\/(sz i=b/\i<s)then cd i else 0
theorem hcodes_any (w:World):Calls Tryz.prog 214 #[] w (CodPost w):=by
 obtain⟨Z,hl,hm,hz,h0⟩:=zero_cod;have HS:=hid h0;have HZ:=hid (And.intro hl hm);clear h0 hm;have st0:=HS.out w;have st1:=HS.out (w.alloc (.cells Z 250));simp only[World.size_alloc]at st1;go_enter Tryz.func214,Tryz.ntmps214;go_upto_region 2 with fail;have HT:=hid (show Ct ((w.alloc (.cells Z 250)).alloc (.cells Z 250)) (w.heap.size+1) 250 (cdF 1 0)from⟨Z,by
  have h:=Blk.new (w.alloc (.cells Z 250)) 250 Z;simp only[World.size_alloc]at h;exact h,HZ.out.1,λi hi=>by
  have h5:=sz_in hi;rw[HZ.out.2 i hi,cdF,if_neg (by omega)]
  rfl⟩)
 have HX:=hid ((Blk.new w 250 Z).alloc (.cells Z 250));have HB:=hid (((Below.refl w.heap.size w).alloc (Nat.le_refl _) (.cells Z 250)).alloc (by simp) (.cells Z 250));clear hz st0 st1 hl;generalize (w.alloc (.cells Z 250)).alloc (.cells Z 250)=W1 at*
 obtain⟨g,hg⟩:∃g,w.heap.size=g:=⟨_,rfl⟩;have HG:=hid hg;rw[hg]at HT HX HB ⊢;clear hg;go_wp2_with fail;go_loopw [3,2] (λb x wr=>∃k:Nat,1<=k/\k<=31/\b= .int .i64 (k:Int)/\x= .int .u32 (nx (k-1) 257:Nat)/\Hid (Ct wr (g+1) 250 (cdF k 0)/\Blk wr g 250 Z/\Below g w wr)) (λb _ _=>31-(intOf b).toNat)
 case atStart=>exact⟨1,by omega,by omega,rfl,by kernel_rfl,hid ⟨HT.out,HX.out,HB.out⟩⟩
 case round=>
  obtain⟨k,hE,hk,rfl,rfl,hh⟩:=hrel;by_cases hn:k<31
  · have ho:nx k 0=2*nx (k-1) 257:=by
     obtain⟨j,rfl⟩:∃j,k=j+1:=⟨k-1,by omega⟩;exact nx_next j
    have hF:=nx_le (b:=k-1) (s:=257) (by omega);have hG:IntKind.u32.wrap ((nx (k-1) 257:Nat)*2)=((nx k 0:Nat):Int):=by
     rw[ho];simp[IntKind.wrap,IntKind.bits,IntKind.signed];omega
    clear ho hF;generalize nx (k-1) 257=x0 at*
    obtain⟨y0,h6⟩:∃y,nx k 0=y:=⟨_,rfl⟩;rw[h6]at hG;have HY:=hid h6;have HH:=hid hh.out;have hQ:(k:Int)<=30:=by omega
    clear h6 hh;go_wp2_with fail;go_loopw [13,2] (λs x ws=>∃j:Nat,j<=257/\s= .int .i64 (j:Int)/\x= .int .u32 (nx k j:Nat)/\Hid (Ct ws (g+1) 250 (cdF k j)/\Blk ws g 250 Z/\Below g w ws)) (λs _ _=>257-(intOf s).toNat)
    case atStart=>exact⟨0,by omega,rfl,by rw[HY.out],hid HH.out⟩
    case round=>
     obtain⟨j,hj,rfl,rfl,hi⟩:=hrel;by_cases h1:j<257
     · have h7:=hid (λW=>hbits_any j h1 W)
       have h0:=nx_step (b:=k) h1;have h2:=cd_nx h1;have hq:=nx_le (b:=k) (s:=j+1) hn;by_cases he:sz j=k
       · rw[if_pos he]at h0
         rw[he]at h2;have c0:=hi.out.1.cell h1;have f0:=hi.out.1.frozen j;have hT:=hi.out.1.lt;have hf:IntKind.u32.wrap (((nx k j:Nat):Int)+1)=((nx k (j+1):Nat):Int):=by rw[h0];simp[IntKind.wrap,IntKind.bits,IntKind.signed];omega
         have HI:=hid ((hi.out.1.put j (nx k j)).same (g:=cdF k (j+1)) (λi _=>by
          unfold cdF;by_cases e:i=j
          · subst e;rw[if_pos rfl,if_pos (.inr ⟨he,by omega⟩),h2]
          · rw[if_neg e]
            by_cases e2:sz i<k\/(sz i=k/\i<j)
            · rw[if_pos e2,if_pos (e2.imp id λh=>⟨h.1,by omega⟩)]
            · rw[if_neg e2,if_neg (λh=>e2 (h.imp id λh=>⟨h.1,by omega⟩))]))
         have HJ:=hid (And.intro (hi.out.2.1.far (p:=⟨g+1,j,none⟩) (by simp) (.int .u32 (nx k j:Nat))) (hi.out.2.2.setCell (p:=⟨g+1,j,none⟩) (by simp) (.int .u32 (nx k j:Nat))));rw[he]at h7;have hH:(j:Int)<257:=by omega
         have hI:wrap64 ((j:Int)+1)=((j+1:Nat):Int):=by unfold wrap64;omega
         clear h0 h2 hq hi he hj;obtain⟨x2,h8⟩:∃y,nx k (j+1)=y:=⟨_,rfl⟩;rw[h8]at hf;have h9:=hid h8;clear h8;generalize nx k j=x1 at*
         go_wp2_with (first
          |(go_at_call 213
            with_reducible refine Calls.mono (h7.out _) ?_
            rintro e w2 ⟨rfl,hw⟩;subst w2)
          |fail)
         go_roundw
         case rel=>exact⟨j+1,by omega,by go_num,by rw[h9.out],hid ⟨HI.out,HJ.out⟩⟩
         case measure=>simp[intOf];omega
       · rw[if_neg he]at h0
         have HI:=hid (hi.out.1.same (g:=cdF k (j+1)) (λi _=>by
          unfold cdF;by_cases e2:sz i<k\/(sz i=k/\i<j)
          · rw[if_pos e2,if_pos (e2.imp id λh=>⟨h.1,by omega⟩)]
          · rw[if_neg e2,if_neg (λh=>e2 (h.imp id λh=>⟨h.1,by
             rcases Nat.lt_or_ge i j with h3|h3
             · exact h3
             · have:i=j:=by omega
               subst this;exact absurd h.1 he⟩))]))
         have HJ:=hid hi.out.2;have h9:=hid h0;have hne:decide (sz j=k)=false:=by simp[he]
         have hR:¬sz j=k:=he;have hS:¬(sz j:Int)=(k:Int):=by omega
         have hH:(j:Int)<257:=by omega
         have hI:wrap64 ((j:Int)+1)=((j+1:Nat):Int):=by unfold wrap64;omega
         clear h0 h2 hq hi he hj;generalize hJ:nx k j=x1 at*
         clear hJ;generalize sz j=q at*
         go_wp2_with (first
          |(go_at_call 213
            with_reducible refine Calls.mono (h7.out _) ?_
            rintro e w2 ⟨rfl,hw⟩;subst w2)
          |fail)
         go_roundw
         case rel=>exact⟨j+1,by omega,by go_num,by rw[h9.out];simp,hid ⟨HI.out,HJ.out⟩⟩
         case measure=>simp[intOf];omega
     · obtain rfl:j=257:=by omega
       have HI:=hid (hi.out.1.same (g:=cdF (k+1) 0) (λi hi=>by
        unfold cdF;by_cases e2:sz i<k\/(sz i=k/\i<257)
        · rw[if_pos e2,if_pos (by omega)]
        · rw[if_neg e2,if_neg (by omega)]))
       have HJ:=hid hi.out.2;have hU:wrap64 ((k:Int)+1)=((k+1:Nat):Int):=by unfold wrap64;omega
       obtain⟨y1,hb⟩:∃y,nx k 257=y:=⟨_,rfl⟩;have hK:=hid hb;rw[hb];clear hi hb h1 hj;go_wp2_with fail;go_roundw
       case rel=>exact⟨k+1,by omega,by omega,by go_num,by rw[<-hK.out];rfl,hid ⟨HI.out,HJ.out⟩⟩
       case measure=>simp[intOf];omega
  · obtain rfl:k=31:=by omega
    obtain⟨cs,ht,h4,hc⟩:=hh.out.1;have HC:=hid (show Blk wr (g+1) 250 cs from ht);have HO:=hid hh.out.2.1;have hu:=hid hh.out.2.2;have hL:=hid (show CodV (.agg cs)from⟨cs,rfl,h4,λi hi=>by
     rw[hc i hi,cdF,if_pos (.inl (by have:=sz_in hi;omega))]⟩)
    have hA:cs.all (·.oneCell')=true:=by
     rw[Array.all_eq_true];intro i hi;have h:=hc i (by omega);rw[Array.getElem?_eq_getElem hi]at h;injection h with h
     rw[h];rfl
    have hd:=hid (show(Tryz.prog.info? 250).map (·.size)=some cs.size by rw[h4];kernel_rfl);have hN:=hid (show Z.size=cs.size by rw[h4,HZ.out.1]);have H1:=hid hA;clear hh ht hc hA h4 hn hk hE;go_wp2_with (first
     |(refine wpList_rowGet _ rfl (.tmp 1) 250 rfl (g+1) 250 cs rfl HC.out _ Tryz.underlying250 rfl hd.out ?_)
     |(refine wpList_rowPut _ rfl (.tmp 0) (.tmp 30) 250 rfl g 250 Z cs rfl rfl HO.out hd.out hN.out H1.out ?_
       intro w5 hC hD;have hO:=hid hC;have hP:=hid hD;clear hC hD)
     |fail)
    refine bodyPost_ret (results_cell_row (p:=0) (ty:=250) rfl _ _ g _ cs _ _ rfl hO.out Tryz.underlying250 rfl hd.out) rfl ⟨_,rfl,hL.out,?_⟩;rw[HG.out];exact hu.out.grown hP.out (by rw[<-HG.out];exact hu.out.size) (λj e=>by injection e with e;omega)
end Go.Proofs.YtkpppjhbmnfmkaaGreatDoor
end
