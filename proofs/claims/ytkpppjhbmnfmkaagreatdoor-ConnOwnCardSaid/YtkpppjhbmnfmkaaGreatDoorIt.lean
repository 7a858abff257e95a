import Derived.Test.YtkpppjhbmnfmkaaGreatDoorJal
import Derived.Test.YtkpppjhbmnfmkaaGreatDoorJae
import Derived.Lib.SlKeysI
set_option linter.unusedSimpArgs false
set_option linter.unusedVariables false
set_option maxHeartbeats 2000000
namespace Go.Proofs.YtkpppjhbmnfmkaaGreatDoor
open Lib (hid)
open Go.RowKit Go.Own Go.Own.Im Go.Own.Cx Go.Maps Go.Sort Go.Shelf
theorem sorts_in (m:Nat):AnyZI.SortsIn Tryz.prog Tryz.sortedA_ren Fence.wide m:=
 ⟨λblk off cap ss W hH h0 hsz=>callsIn_wide.2 (AnyM.slices_Sort_int Tryz.sortA blk off cap ss W hH h0 hsz),
  λp cap W=>callsIn_wide.2 (AnyM.slices_Sort_int_none Tryz.sortA p cap W)⟩
theorem sorted_ids {w:World} {b:Nat} {ks:List Nat} {f:Nat->Value} {D:DataW Value} (h0:w.ownsMap Tryz.prog 3 Rh b ks.length D) (hh:∀k:Int,Maps.has D (il k)=ks.any λi:Nat=>decide ((i:Int)=k)) (hs:ks.Pairwise (·<·)) {ss:List Int} (hp:ss.Perm (intKeys D)):
 ss.mergeSort (λx y=>decide (x<=y))=ks.map λi:Nat=>(i:Int):=by
 obtain⟨es,hD,h4,h8⟩:=h0.entries (Maps.int_keyed Tryz.underlying3);obtain⟨es',h3,h5⟩:=h0.keysOf;obtain rfl:es=es':=by rw[hD]at h3;simpa using h3
 subst hD;have hk:∀p∈es,∃x,p.1= .int .i64 x:=λp h6=>by
  obtain⟨v,hv⟩:=h5 p h6;obtain⟨x,_,hx,_⟩:=Maps.keyOf_i64 Tryz.underlying3 hv;exact⟨x,hx⟩
 have h7:(ks.map λi:Nat=>(i:Int)).Nodup:=by
  rw[List.Nodup,List.pairwise_map];exact hs.imp λh e=>by omega
 have h1:=perm_intKeys h4 hk (ss:=ks.map λi:Nat=>(i:Int)) h7 λx=>by
  rw[show(Lit.int .i64 x)=il x from rfl,hh x,List.any_eq_true,List.mem_map];constructor
  · rintro⟨i,hi,rfl⟩;exact⟨i,hi,by simp⟩
  · rintro⟨i,hi,e⟩;exact⟨i,hi,by simpa using e⟩
 have h2:=mergeSort_of_perm_i (hp.trans h1.symm);refine h2.trans (List.mergeSort_of_pairwise ?_);rw[List.pairwise_map];exact hs.imp λh=>by simp;omega
theorem ids_any (w:World) (ow:Nat->Tg) (b:Nat) (M:Cv) (L:Lay) (h:CN w ow b M L) (hs:(M.strs.map (·.id)).Pairwise (·<·)) (hn:M.strs.length<=1000000):
 Calls Tryz.prog 42 #[.pointer (some ⟨b,0,none⟩)] w λe w'=>∃v,e= .returned v/\w'.ownsRow w.heap.size 3 1 v M.strs.length ((M.strs.map λs=>(s.id:Int)).map encZ)/\Below w.heap.size w w':=by
 have c15:w.cell? ⟨b,15,none⟩=some (.map (some L.mb)):=h.blk.cell 15;obtain⟨D,h1,_,hsz,hh,_⟩:=h.p.map;have h6:=h1.lt;have h7:=hid (λ(ss:List Int) (hp:ss.Perm (intKeys D))=>sorted_ids (f:=λ_=>.nilIface) h1 hh hs hp);have h3:Maps.size D=M.strs.length:=by rw[hsz];simp
 have h5:Maps.size D<=maxLen:=by rw[h3];simp only[maxLen];omega
 have h0:Maps.size D*8<=140737488355328:=by omega
 clear h hs hh hsz h3;refine(callsIn_wide (n:=6)).1 ?_;have h4:SeqGives Fence.wide 2 Tryz.prog 118 #[.pointer (some ⟨w.heap.size,0,none⟩)] encZ (λss=>ss.Perm (intKeys D)) (Maps.size D) (w.alloc (.cells #[.map (some L.mb)] 74)):=
  AnyZI.keys_gives (ρ:=Tryz.keysA_ren) {Tryz.keysA with} Fence.wide _ trivial rfl (by omega) w.heap.size L.mb _ D _ (by simp) (by simp) (by
   obtain⟨es,clock,hb,Ft,hs,hD⟩:=h1;exact⟨es,clock,(Below.heap_alloc _ _ L.mb h6).trans hb,Ft,hs,hD⟩)
 have cK:∀mb W,CallsIn Fence.wide 5 Tryz.prog 74 #[.map mb] W λe w'=>e= .returned (.func (.func 118) #[] #[.pointer (some ⟨W.heap.size,0,none⟩)])/\w'=W.alloc (.cells #[.map mb] 74):=λmb W=>AnyZI.keys_in Tryz.keysA Fence.wide 5 trivial rfl mb W;have cS:=AnyZI.sorted_in Tryz.sortedA Fence.wide 5 trivial trivial trivial trivial rfl (by omega) (sorts_in _) (enters_of Tryz.func117 (by kernel_rfl) rfl) 118 #[.pointer (some ⟨w.heap.size,0,none⟩)] trivial (enters_of Tryz.func118 (by kernel_rfl) rfl) _ _ h5 h0 _ h4;change CallsIn _ _ Tryz.prog 73 _ _ _ at cS;have hc:Fence.wide.fn 74:=trivial;have hd:Fence.wide.fn 73:=trivial;clear h1 h5 h0;refine callsIn_of_wp Tryz.func42 rfl trivial ?_ rfl;simp only[Tryz.ntmps42,List.size_toArray,List.length_cons,List.length_nil,Nat.reduceAdd,Nat.reduceSub,Array.replicate_succ,Array.replicate_zero,List.push_toArray,List.append_toArray,List.nil_append,List.cons_append]
 gi_wp2_with (first
  |(gi_at_call 74;refine(cK _ _).mono ?_;rintro e w' ⟨rfl,rfl⟩)
  |(gi_at_call 73;refine cS.mono ?_;rintro e w' ⟨v,ss,rfl,hS,h2,h8,hb⟩))
 go_ret;have e1:=h7.out ss hS;rw[e1]at h2;have e2:ss.length=M.strs.length:=by have:=congrArg List.length e1;simpa using this
 rw[e2]at h2;refine⟨v,rfl,?_,((Below.refl _ w).alloc (Nat.le_refl _) _).trans (hb.mono (by simp))⟩;have h9:w'.ownsRow w.heap.size 3 1 v M.strs.length (((M.strs.map (·.id)).map λi:Nat=>(i:Int)).map encZ):=ownsRow_base_a (base':=w.heap.size) h2 (by simp);have e3:((M.strs.map (·.id)).map λi:Nat=>(i:Int))=M.strs.map λs=>(s.id:Int):=by rw[List.map_map];rfl
 rw[e3]at h9;exact h9
def strAt (M:Cv) (id:Int):Option Sv:=M.strs.find? λs=>decide ((s.id:Int)=id)
theorem at_none {M:Cv} {L:Lay} {id:Int} (h:strAt M id=none):atI (M.strs.map (·.id)) (sptr L) (.pointer none) id= .pointer none:=by
 unfold atI;rw[List.find?_map];unfold strAt at h;rw[show((λi:Nat=>decide ((i:Int)=id))∘λx:Sv=>x.id)=λs:Sv=>decide ((s.id:Int)=id)from rfl,h]
 rfl
theorem at_some {M:Cv} {L:Lay} {id:Int} {s:Sv} (h:strAt M id=some s):atI (M.strs.map (·.id)) (sptr L) (.pointer none) id= .pointer (some ⟨(L.s s.id).sb,0,none⟩)/\s∈M.strs/\(s.id:Int)=id:=by
 unfold strAt at h;refine⟨?_,List.mem_of_find?_eq_some h,by simpa using List.find?_some h⟩;unfold atI;rw[List.find?_map];rw[show((λi:Nat=>decide ((i:Int)=id))∘λx:Sv=>x.id)=λs:Sv=>decide ((s.id:Int)=id)from rfl,h]
 rfl
theorem look_str {w:World} {ow:Nat->Tg} {b:Nat} {M:Cv} {L:Lay} (h:CN w ow b M L) (id:Int) (hw:(Lit.int .i64 id).wf=true):(Instr.lookup 74 (.map (some L.mb)) (.int .i64 id) false).run Tryz.prog w= .ok (atI (M.strs.map (·.id)) (sptr L) (.pointer none) id) w:=
 h.p.map.look Tryz.underlying74 Tryz.underlying3 (zero_strm w) hw
end Go.Proofs.YtkpppjhbmnfmkaaGreatDoor
