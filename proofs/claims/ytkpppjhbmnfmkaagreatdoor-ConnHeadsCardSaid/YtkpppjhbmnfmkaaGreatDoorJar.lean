/-
  
  
  
  
  
  
  
  
  
  
  
  
  
  
  
  
  
-/
import Derived.Test.YtkpppjhbmnfmkaaGreatDoorF3
import Derived.Test.YtkpppjhbmnfmkaaGreatDoorJae
import Derived.Test.YtkpppjhbmnfmkaaGreatDoorJat
import Derived.Test.YtkpppjhbmnfmkaaGreatDoorJaw
import Derived.Test.YtkpppjhbmnfmkaaGreatDoorJac
import Derived.Deep.RegionHeld3
import Derived.Test.YtkpppjhbmnfmkaaGreatDoorJal
set_option linter.unusedSimpArgs false
set_option linter.unusedVariables false
section
set_option maxHeartbeats 8000000
set_option maxRecDepth 100000
namespace Go.Proofs.YtkpppjhbmnfmkaaGreatDoor
open Go.RowKit Go.Own Go.Own.Im Go.Own.Cx Go.Own.Fr
attribute [local go_sem] Oper.semAt_some
def HeadOk (A:Option Addr) (n c:Nat) (W:World):Prop:=
 Calls Tryz.prog 57 #[.slice A n c] W λe W'=>∃a1 a2 a3 a4 v,e= .returned (.tuple #[.agg #[.string a1,.string a2,.string a3,.string a4,v],.nilIface])/\(∃A' n' c',v= .slice A' n' c')/\Below W.heap.size W W'
theorem opened_ok (w:World) (ow:Nat->Tg) (b:Nat) (M:Cv) (L:Lay) (id:Nat) (A:Option Addr) (c:Nat) (hs:List Hd.HdrV) (fin:Bool) (h:CN w ow b M L) (hid:id<=2147483647) (hb:∀s∈M.strs,s.id≠id) (hm:(M.strs.length:Int)<M.cs) (hbye:M.bye=false)
 (h0:0<=M.window/\M.window<=2147483647) (h1:0<=M.others/\M.others<=2147483647) (hn:M.strs.length<=1000000) (hu:(M.strs.map (·.id)).Nodup) (hl:hs.length<=c) (hD:Cm.RS hdrC 3 w w.heap.size A hs.length hs) (ht:0<hs.length) (h5:∀ad,A=some ad->ow ad.block= .evd) (hF:M.evs.length<=900000)
 (hG:∀W,Fr w ow W ow->Cm.RS hdrC 3 W w.heap.size A hs.length hs->HeadOk A hs.length c W):
 Calls Tryz.prog 196 #[.pointer (some ⟨b,0,none⟩),.int .i64 (id:Nat),.slice A hs.length c,.bool fin] w
  (CPost w ow b {M with last:=id,strs:=M.strs++[endS {id:=id,other:=1,inw:=M.window,outw:=M.others} fin],evs:=M.evs++[{kind:=1,stream:=id,fin:=fin,la:=A,lc:=c,l:=hs}]} (.tuple #[])):=by
 have h4:=h.last_ id;have hW:=Lib.hid h4.1;have hX:=Lib.hid h4.2;have c14:w.cell? ⟨b,14,none⟩=some (.int .i64 (M.last:Nat)):=h.blk.cell 14;have f14:=h.blk.frozen 14;have hw:=λty (n:Nat)=>(h4.1.drewN n).p.map.len Tryz.underlying74 ty;simp only[List.length_map]at hw;have k15:(w.setCell ⟨b,14,none⟩ (.int .i64 (id:Nat))).cell? ⟨b,15,none⟩=some (.map (some L.mb)):=h4.1.blk.cell 15;have k2:(w.setCell ⟨b,14,none⟩ (.int .i64 (id:Nat))).cell? ⟨b,2,none⟩=some (.int .i64 M.cs):=h4.1.blk.cell 2;have k17:(w.setCell ⟨b,14,none⟩ (.int .i64 (id:Nat))).cell? ⟨b,17,none⟩=some (.bool M.bye):=h4.1.blk.cell 17;rw[hbye]at k17;have H7:¬M.cs<=(M.strs.length:Int):=by omega
 have hj:=Lib.hid (show Cm.RS hdrC 3 (w.setCell ⟨b,14,none⟩ (.int .i64 (id:Nat))) w.heap.size A hs.length hs from hD.setCell (λad e=>λe2=>by have:=h5 ad e;rw[e2]at this;simp only at this;rw[h.tb]at this;cases this) _);have hY:=Lib.hid (show(w.setCell ⟨b,14,none⟩ (.int .i64 (id:Nat))).heap.size=w.heap.size by simp[World.setCell]);have hZ:=Lib.hid (λn=>hG ((w.setCell ⟨b,14,none⟩ (.int .i64 (id:Nat))).drewN n) (h4.2.trans (Fr.drewN _ ow n)) (hj.out.keep (Nat.le_refl _) λ_ _ _ _=>rfl));have HH:=Lib.hid (show _/\_/\_/\_/\_/\_/\_/\_/\_ from⟨hid,hb,h0,h1,hn,hu,hl,h5,hF⟩);clear h h4 hm hG hD h5 hb h0 h1 hu hF;generalize hH:M.strs.length=n at*
 generalize hI:hs.length=nh at*
 have H0:=Lib.hid hH;have hd:=Lib.hid hI;clear hH hI;go_enter Tryz.func196,Tryz.ntmps196;go_upto_region 1 with fail;generalize w.setCell ⟨b,14,none⟩ (.int .i64 (id:Nat))=W1 at*
 go_quiet (fail);go_wp2_with (first
  |(go_at_call 57
    refine Calls.mono (hZ.out _) ?_;rintro e w2 ⟨a1,a2,a3,a4,v,rfl,⟨A',n',c',rfl⟩,hJ⟩;have hK:=Lib.hid (show Below W1.heap.size W1 w2 from(bdN (Below.refl _ _) _).trans hJ);clear hJ)
  |fail)
 have he:=Lib.hid (hK.out.alloc hK.out.size (.cells #[.string a1,.string a2,.string a3,.string a4,.slice A' n' c'] 115));generalize w2.alloc (.cells #[.string a1,.string a2,.string a3,.string a4,.slice A' n' c'] 115)=W3 at*
 refine Calls.mono (opens_any W3 ow b _ L id (hW.out.below he.out) HH.out.2.1 HH.out.1 HH.out.2.2.1 HH.out.2.2.2.1 (H0.out▸HH.out.2.2.2.2.1)) ?_;rintro e w4 ⟨rfl,ow4,L4,hk,hf,ho,H1,hL,hM⟩;have h7:({id:=id,inw:=M.window,outw:=M.others}:Sv)∈M.strs++[({id:=id,inw:=M.window,outw:=M.others}:Sv)]:=by simp
 have hq:=hk.p.strs _ h7;have s2:w4.cell? ⟨(L4.s id).sb,2,none⟩=some (.int .i64 0):=hq.blk.cell 2;have sf:w4.frozen? ⟨(L4.s id).sb,2,none⟩=false:=hq.blk.frozen 2;have hh:=hk.strcell (s:={id:=id,inw:=M.window,outw:=M.others}) (s':={id:=id,other:=1,inw:=M.window,outw:=M.others}) h7 rfl 2 (.int .i64 1) rfl rfl rfl rfl;rw[updS_last (s:={id:=id,inw:=M.window,outw:=M.others}) (s':={id:=id,other:=1,inw:=M.window,outw:=M.others}) HH.out.2.1 rfl]at hh;have hN:=Lib.hid hh;have H8:=hY.out;have H9:=he.out.size;obtain⟨ad0,h9,hA⟩:∃ad,A=some ad/\ad.block<w.heap.size:=by
  obtain⟨ad,h1,h2,_⟩:=hj.out.2 0 _ (List.getElem?_eq_getElem (by rw[hd.out];exact ht));exact⟨ad,h1,h2⟩
 have h8:=HH.out.2.2.2.2.2.2.2.1 ad0 h9;have hO:Cm.RS hdrC 3 W3 w.heap.size A nh hs:=hj.out.below (he.out.mono (by omega));have hP:Cm.RS hdrC 3 w4 w.heap.size A nh hs:=hO.keep (by have:=hf.size;exact this) λad h1 h2 h3=>hM _ h3 (by rw[h9]at h1;injection h1 with h1;rw[<-h1,h8];decide);have hQ:Cm.RS hdrC 3 (w4.setCell ⟨(L4.s id).sb,2,none⟩ (.int .i64 1)) w.heap.size A nh hs:=hP.setCell (λad h1=>by rw[h9]at h1;injection h1 with h1;rw[ho,<-h1];simp only;omega) _;have hE:EvOk (w4.setCell ⟨(L4.s id).sb,2,none⟩ (.int .i64 1)) ow4 {kind:=1,stream:=id,fin:=fin,la:=A,lc:=c,l:=hs}:=
  ⟨⟨by show hs.length<=c;rw[hd.out];exact HH.out.2.2.2.2.2.2.1,by
     show Cm.RS hdrC 3 _ _ A hs.length hs;rw[hd.out];exact hQ.more (by have:=hf.size;simp[World.setCell];omega),λ_ ad h1=>by
     have h1:A=some ad:=h1;rw[h9]at h1;injection h1 with h1
     rw[<-h1,hL _ (by omega)];exact h8⟩,⟨Nat.le_refl _,rd_nil0 _ _,λh=>absurd h (Nat.lt_irrefl _)⟩⟩
 have HT:=tell_anyL _ ow4 b _ L4 {kind:=1,stream:=id,fin:=fin,la:=A,lc:=c,l:=hs} hh.1 hE HH.out.2.2.2.2.2.2.2.2;have hEv:evC {kind:=1,stream:=id,fin:=fin,la:=A,lc:=c,l:=hs}= #[.int .i64 1,.int .i64 (id:Nat),.int .i64 0,.int .i64 0,.bool fin,.slice A nh c,.slice none 0 0]:=by simp only[evC,hd.out];rfl
 rw[hEv]at HT;have HT:=Lib.hid HT;have H2:=Lib.hid hf;rw[ho]at s2 sf HT hN;clear hk hf H1 hL hM hh hq h7 hO hP hQ hE h8 hA h9 hEv;rw[<-ho]at*
 have HQ:=Lib.hid (λ(L6:Lay) (h6:L6.s=L4.s)=>(show(L6.s id).sb=(L4.s id).sb by rw[h6]));generalize (L4.s id).sb=sb at*
 have hR:((M.strs++[({id:=id,other:=1,inw:=M.window,outw:=M.others}:Sv)]).map (·.id)).Nodup:=by
  rw[List.map_append,List.nodup_append];refine⟨HH.out.2.2.2.2.2.1,by simp,λa ha c hc=>?_⟩;obtain⟨x,hx,rfl⟩:=List.mem_map.1 ha;obtain rfl:c=id:=by simpa using hc
  exact HH.out.2.1 x hx
 have H3:=Lib.hid hR;clear hR;go_wp2_with (first
  |(go_at_call 109
    refine HT.out.mono ?_;rintro e w6 ⟨ow6,L6,rfl,hS,hT,hU⟩;have hi:=ends_any w6 ow6 b _ L6 {id:=id,other:=1,inw:=M.window,outw:=M.others} fin hS (by simp) (by simp) H3.out;have hV:(L6.s ({id:=id,other:=1,inw:=M.window,outw:=M.others}:Sv).id).sb=sb:=HQ.out L6 hU;rw[hV,updS_last (s:={id:=id,other:=1,inw:=M.window,outw:=M.others}) (s':=endS {id:=id,other:=1,inw:=M.window,outw:=M.others} fin) (by cases fin<;>exact HH.out.2.1) (by cases fin<;>rfl)]at hi;have hi:=Lib.hid hi;have H4:=Lib.hid hT;clear hS hT hU hV)
  |(go_at_call 193
    refine hi.out.mono ?_;intro e w7 hp;obtain rfl:=hp.ret;have H5:=Lib.hid hp;clear hp)
  |fail)
 go_end0;have hC:=H5.out.trans H4.out |>.trans hN.out.2 |>.trans H2.out |>.trans (Fr.below he.out ow) |>.trans hX.out
 exact hC
end Go.Proofs.YtkpppjhbmnfmkaaGreatDoor
end

section
namespace Go.Proofs.YtkpppjhbmnfmkaaGreatDoor
open Go.RowKit Go.Own Go.Own.Im Go.Own.Cx Go.Own.Hd
theorem hcells_flat (l:List HdrV):H6.hcells l=Cm.flat hdrC l:=by
 have e:(H6.hcell:HdrV->List Value)=λx=>(hdrC x).toList:=by funext x;rfl
 simp only[H6.hcells,Cm.flat,e]
theorem headOk_of {A:Option Addr} {c:Nat} {hs:List HdrV} {W:World} {e1 e2 e3:Addr} (he:H6.EnvH W e1 e2 e3) (hn:hs.length<=100) (hc:hs.length<=c) (hr:Cm.RS hdrC 3 W W.heap.size A hs.length hs) (hz:H6.Szs hs) (ho:(openS rules4 hs req0).isSome=true):HeadOk A hs.length c W:=by
 have h1:H6.Hr W A hs.length hs:=⟨rfl,λj u hu=>by
  rw[hcells_flat]at hu;exact hr.flatc (λ_=>rfl) j u hu⟩
 refine(H6.open_any A hs.length c hs W he (by omega) hc h1 hz).mono ?_;rintro e W' ⟨hb,h2|⟨rest,s,_,A',c',h3,_⟩⟩
 · rw[h2.1]at ho;cases ho
 · exact⟨_,_,_,_,_,h3,⟨_,_,_,rfl⟩,hb⟩
end Go.Proofs.YtkpppjhbmnfmkaaGreatDoor
end

section
set_option maxHeartbeats 4000000
set_option maxRecDepth 100000
namespace Go.Proofs.YtkpppjhbmnfmkaaGreatDoor
open Go.RowKit Go.Own Go.Own.Im Go.Own.Cx Go.Own.Fr
attribute [local go_sem] Oper.semAt_some
def HeadBad (A:Option Addr) (n c:Nat) (W:World):Prop:=
 Calls Tryz.prog 57 #[.slice A n c] W λe W'=>∃a,e= .returned (.tuple #[.agg #[.string ⟨#[]⟩,.string ⟨#[]⟩,.string ⟨#[]⟩,.string ⟨#[]⟩,.slice none 0 0],.iface 327 (.pointer (some a))])/\Below W.heap.size W W'
theorem headBad_of {A:Option Addr} {c:Nat} {hs:List Hd.HdrV} {W:World} {e1 e2 e3:Addr} (he:H6.EnvH W e1 e2 e3) (hn:hs.length<=10000) (hc:hs.length<=c) (hr:Cm.RS hdrC 3 W W.heap.size A hs.length hs) (hz:H6.Szs hs) (ho:(Hd.openS Hd.rules4 hs Hd.req0)=none):HeadBad A hs.length c W:=by
 have h1:H6.Hr W A hs.length hs:=⟨rfl,λj u hu=>by
  rw[hcells_flat]at hu;exact hr.flatc (λ_=>rfl) j u hu⟩
 refine(H6.open_any A hs.length c hs W he (by omega) hc h1 hz).mono ?_;rintro e W' ⟨hb,h2|⟨rest,s,h2,_⟩⟩
 · exact⟨_,h2.2,hb⟩
 · rw[ho]at h2;cases h2
theorem headOk_of' {A:Option Addr} {c:Nat} {hs:List Hd.HdrV} {W:World} {e1 e2 e3:Addr} (he:H6.EnvH W e1 e2 e3) (hn:hs.length<=10000) (hc:hs.length<=c) (hr:Cm.RS hdrC 3 W W.heap.size A hs.length hs) (hz:H6.Szs hs) (ho:(Hd.openS Hd.rules4 hs Hd.req0).isSome=true):HeadOk A hs.length c W:=by
 have h1:H6.Hr W A hs.length hs:=⟨rfl,λj u hu=>by
  rw[hcells_flat]at hu;exact hr.flatc (λ_=>rfl) j u hu⟩
 refine(H6.open_any A hs.length c hs W he (by omega) hc h1 hz).mono ?_;rintro e W' ⟨hb,h2|⟨rest,s,_,A',c',h3,_⟩⟩
 · rw[h2.1]at ho;cases ho
 · exact⟨_,_,_,_,_,h3,⟨_,_,_,rfl⟩,hb⟩
theorem szs_of {hs:List Hd.HdrV} (h:hszs hs<=16384):H6.Szs hs:=λx hx=>by
 have:=hsize_le hx h;omega
theorem len_of {hs:List Hd.HdrV} (h:hszs hs<=16384):hs.length<=10000:=by
 have:=hszs_32 hs;omega
theorem opened_bad (w:World) (ow:Nat->Tg) (b:Nat) (M:Cv) (L:Lay) (id:Nat) (A:Option Addr) (c:Nat) (hs:List Hd.HdrV) (fin:Bool) (h:CN w ow b M L) (hid:id≠0/\id<=2147483647) (hm:(M.strs.length:Int)<M.cs) (hbye:M.bye=false) (ho:M.out.length<=1000000000) (hrs:Cm.RS hdrC 3 w w.heap.size A hs.length hs) (h1:0<hs.length->∀ad,A=some ad->ow ad.block= .evd)
 (h3:∀W,Fr w ow W ow->Cm.RS hdrC 3 W w.heap.size A hs.length hs->HeadBad A hs.length c W):
 Calls Tryz.prog 196 #[.pointer (some ⟨b,0,none⟩),.int .i64 (id:Nat),.slice A hs.length c,.bool fin] w (CPost w ow b {M with last:=id,out:=M.out++frameB 3 0 id (be 1 4)} (.tuple #[])):=by
 have hl:=h.last_ id;have h7:=Lib.hid hl.1;have h8:=Lib.hid hl.2;have c14:w.cell? ⟨b,14,none⟩=some (.int .i64 (M.last:Nat)):=h.blk.cell 14;have f14:=h.blk.frozen 14;have h2:=λty (n:Nat)=>(hl.1.drewN n).p.map.len Tryz.underlying74 ty;simp only[List.length_map]at h2;have k15:(w.setCell ⟨b,14,none⟩ (.int .i64 (id:Nat))).cell? ⟨b,15,none⟩=some (.map (some L.mb)):=hl.1.blk.cell 15;have k2:(w.setCell ⟨b,14,none⟩ (.int .i64 (id:Nat))).cell? ⟨b,2,none⟩=some (.int .i64 M.cs):=hl.1.blk.cell 2;have k17:(w.setCell ⟨b,14,none⟩ (.int .i64 (id:Nat))).cell? ⟨b,17,none⟩=some (.bool M.bye):=hl.1.blk.cell 17;rw[hbye]at k17;have hd:¬M.cs<=(M.strs.length:Int):=by omega
 have h9:=Lib.hid (show Cm.RS hdrC 3 (w.setCell ⟨b,14,none⟩ (.int .i64 (id:Nat))) w.heap.size A hs.length hs from by
  rcases Nat.eq_zero_or_pos hs.length with h0|h0
  · exact⟨rfl,λj x hx=>by have:=(List.getElem?_eq_some_iff.1 hx).1;omega⟩
  · exact hrs.setCell (λad e=>λe2=>by have:=h1 h0 ad e;rw[e2]at this;simp only at this;rw[h.tb]at this;cases this) _)
 have hb:=Lib.hid (λn=>h3 ((w.setCell ⟨b,14,none⟩ (.int .i64 (id:Nat))).drewN n) (hl.2.trans (Fr.drewN _ ow n)) (h9.out.keep (Nat.le_refl _) λ_ _ _ _=>rfl));have HH:=Lib.hid (And.intro hid ho);clear h hl h3 hm hid ho hrs h1;generalize hn:M.strs.length=n at*
 clear hn;generalize hc:hs.length=nh at*
 clear hc;go_enter Tryz.func196,Tryz.ntmps196;go_upto_region 1 with fail;generalize w.setCell ⟨b,14,none⟩ (.int .i64 (id:Nat))=W1 at*
 go_quiet (fail);go_wp2_with (first
  |(go_at_call 57
    refine Calls.mono (hb.out _) ?_;rintro e w2 ⟨a,rfl,h4⟩;have h5:=Lib.hid (show Below W1.heap.size W1 w2 from(bdN (Below.refl _ _) _).trans h4);clear h4)
  |fail)
 have h6:=Lib.hid (h5.out.alloc h5.out.size (.cells #[.string ⟨#[]⟩,.string ⟨#[]⟩,.string ⟨#[]⟩,.string ⟨#[]⟩,.slice none 0 0] 115));have HP:=put_any _ ow b _ L _ _ (h7.out.below h6.out) rfl (bld_reset _ id 1 HH.out.1.1 HH.out.1.2 (by omega)) HH.out.2;rw[infC_reset,flg_reset,pay_reset]at HP;refine HP.mono ?_;intro e w' hp;obtain rfl:=hp.ret;have HQ:=Lib.hid hp;clear hp HP;go_wp2;go_end0;exact HQ.out.trans (h8.out.trans (Fr.below h6.out ow))
end Go.Proofs.YtkpppjhbmnfmkaaGreatDoor
end

section
set_option maxHeartbeats 4000000
set_option maxRecDepth 100000
namespace Go.Proofs.YtkpppjhbmnfmkaaGreatDoor
open Lib (hid)
open Go.RowKit Go.Own Go.Own.Im Go.Own.Cx Go.Own.Fr Go.Own.Hd
attribute [local go_sem] Oper.semAt_some
theorem rs_hr {A:Option Addr} {w:World} {B:Nat} {hs:List Hd.HdrV} (hr:Cm.RS hdrC 3 w B A hs.length hs):H6.Hr w A hs.length hs:=⟨rfl,λj u hu=>by
 rw[hcells_flat]at hu;exact hr.flatc (λ_=>rfl) j u hu⟩
theorem take_hszs (hs:List HdrV) {j:Nat} {x:HdrV} (hx:hs[j]?=some x):hszs (hs.take (j+1))=hszs (hs.take j)+hsz x:=by
 rw[List.take_add_one,hx];simp[hszs]
theorem take_le (hs:List HdrV) (h:∀x∈hs,x.name.size<=140737488355328/\x.value.size<=140737488355328):∀n,hszs (hs.take n)<=300000000000000*n
 |0=>by simp[hszs]
 |n+1=>by
  have ih:=take_le hs h n;cases hx:hs[n]? with
  |none=>
   have:hs.take (n+1)=hs.take n:=by rw[List.take_add_one,hx];simp
   rw[this];omega
  |some x=>
   rw[take_hszs hs hx];have:=h x (List.mem_of_getElem? hx);unfold hsz;omega
theorem r4a (a b:Nat) (h:a+b<=1000000000000000000):wrap64 ((a:Int)+(b:Int))=((a+b:Nat):Int):=by unfold wrap64;omega
def SzR4 (w:World) (hs:List HdrV) (nv iv:Value) (wr:World):Prop:=∃j:Nat,nv= .int .i64 (hszs (hs.take j):Nat)/\iv= .int .i64 (j:Nat)/\j<=hs.length/\Below w.heap.size w wr
theorem r4size_any (w:World) (A:Option Addr) (c:Nat) (hs:List HdrV) (hr:Cm.RS hdrC 3 w w.heap.size A hs.length hs) (hn:hs.length<=1000) (hz:∀x∈hs,x.name.size<=140737488355328/\x.value.size<=140737488355328):
 Calls Tryz.prog 23 #[.slice A hs.length c] w λe w'=>e= .returned (.int .i64 (hszs hs:Nat))/\Below w.heap.size w w':=by
 have HR:=hid hr;have HH:=hid (show _/\_ from⟨hn,hz⟩);have HL:=hid (take_le hs hz);generalize hN:hs.length=n at*
 have HN:=hid hN;clear hr hn hz hN;go_enter Tryz.func23,Tryz.ntmps23;go_upto_region 3 with fail;go_loopw [3,4] (λnv iv wr=>Hid (SzR4 w hs nv iv wr)) (λ_ iv _=>n-(intOf iv).toNat)
 case atStart=>exact⟨0,rfl,rfl,Nat.zero_le _,Below.refl _ _⟩
 case round=>
  obtain⟨j,rfl,rfl,h0,hb⟩:=hrel;rw[HN.out]at h0;have HB:=hid hb;by_cases h1:j<n
  · have hc:(j:Int)<(n:Int):=by omega
    obtain⟨x,hx⟩:∃x,hs[j]?=some x:=⟨_,List.getElem?_eq_getElem (by rw[HN.out];exact h1)⟩;have hH:=rs_hr (HN.out.symm▸HR.out.below hb);obtain⟨ad,rfl,a0,a1,a2⟩:=hH.at_ (k:=j) (by rw[HN.out];omega);have h3:hs.getD j ⟨⟨#[]⟩,⟨#[]⟩,false⟩=x:=by rw[List.getD,hx];rfl
    rw[h3]at a0 a1 a2;have h2:=HH.out.2 x (List.mem_of_getElem? hx);have h4:=hid (λW=>r3size_any x.name x.value x.never W h2.1 h2.2);have i0:(0:Int)<=(j:Int):=by omega
    have h8:=HL.out (j+1);have h5:=take_hszs hs hx;have ej:=r4a j 1 (by have:=HH.out.1;omega);have ew:=r4a (hszs (hs.take j)) (hsz x) (by have:=HH.out.1;omega);rw[<-h5]at ew;have h6:=hid (show j+1<=n/\n-(j+1)<n-j from⟨h1,by omega⟩);obtain⟨xn,xv,xb⟩:=x;simp only at a0 a1 a2 h4;clear hb h0 hx h2 hH h3 h5 h8 h1;go_wp2_with (first
     |(go_at_call 46
       refine Calls.mono (h4.out _) ?_;rintro e w2 ⟨rfl,h7⟩;have h9:=hid (HB.out.trans (h7.mono HB.out.size));clear h7)
     |fail)
    have ej':wrap64 ((j:Int)+1)=((j+1:Nat):Int):=ej;refine⟨⟨j+1,by rw[ew],by rw[ej'],by rw[HN.out];exact h6.out.1,h9.out⟩,?_⟩;rw[ej'];exact h6.out.2
  · obtain rfl:j=n:=by omega
    have hd:¬((j:Int)<(j:Int)):=by omega
    have et:hs.take j=hs:=List.take_of_length_le (Nat.le_of_eq HN.out);rw[et];clear hb h0 et;go_wp2;go_ret;exact⟨rfl,HB.out⟩
end Go.Proofs.YtkpppjhbmnfmkaaGreatDoor
end

section
set_option maxHeartbeats 1000000
namespace Go.Proofs.YtkpppjhbmnfmkaaGreatDoor
open Lib (hid)
open Go.RowKit Go.Own Go.Own.Cx Go.Own.Fr
attribute [local go_sem] Oper.semAt_some
def REn (w:World) (e tb:Nat) (m:Int):Prop:=Blk w e 106 #[.pointer (some ⟨tb,0,none⟩),.bool false,.int .i64 0,.int .i64 0]/\Blk w tb 160 #[.slice none 0 0,.int .i64 m]
theorem rnew_any (m:Int) (w:World):Calls Tryz.prog 47 #[.int .i64 m] w λe w'=>e= .returned (.pointer (some ⟨w.heap.size,0,none⟩))/\w'=w.alloc (.cells #[.slice none 0 0,.int .i64 m] 160):=by
 go_enter Tryz.func47,Tryz.ntmps47;go_wp2_with fail;go_ret;exact⟨rfl,rfl⟩
theorem rnewEnc_any (m:Int) (w:World):Calls Tryz.prog 24 #[.int .i64 m] w λe w'=>∃g tb,e= .returned (.pointer (some ⟨g,0,none⟩))/\w.heap.size<=g/\w.heap.size<=tb/\REn w' g tb m/\Below w.heap.size w w':=by
 go_enter Tryz.func24,Tryz.ntmps24;go_wp2_with fail;refine(rnew_any m _).mono ?_;rintro e w1 ⟨rfl,hw⟩;have HX:=hid (Blk.new w 160 #[.slice none 0 0,.int .i64 m]);have HB:=hid ((Below.refl w.heap.size w).alloc (Nat.le_refl _) (.cells #[.slice none 0 0,.int .i64 m] 160));rw[<-hw]at HX HB;clear hw;go_wp2_with fail;go_ret;exact⟨_,_,rfl,HB.out.size,Nat.le_refl _,⟨Blk.new w1 _ _,HX.out.alloc _⟩,HB.out.alloc HB.out.size _⟩
end Go.Proofs.YtkpppjhbmnfmkaaGreatDoor
end

section
set_option maxHeartbeats 4000000
set_option maxRecDepth 100000
namespace Go.Proofs.YtkpppjhbmnfmkaaGreatDoor
open Lib (hid)
open Go.RowKit Go.Own Go.Own.Im Go.Own.Cx Go.Own.Fr Go.Own.Hd
attribute [local go_sem] Oper.semAt_some
theorem r3tsize_any (w:World) (tb:Nat) (m:Value) (A:Option Addr) (c:Nat) (hs:List HdrV) (ht:Blk w tb 160 #[.slice A hs.length c,m]) (hr:Cm.RS hdrC 3 w w.heap.size A hs.length hs) (hn:hs.length<=1000) (hz:∀x∈hs,x.name.size<=140737488355328/\x.value.size<=140737488355328):
 Calls Tryz.prog 163 #[.pointer (some ⟨tb,0,none⟩)] w λe w'=>e= .returned (.int .i64 (hszs hs:Nat))/\Below w.heap.size w w':=by
 have HR:=hid hr;have HT:=hid ht;have HH:=hid (show _/\_ from⟨hn,hz⟩);have HL:=hid (take_le hs hz);generalize hN:hs.length=n at*
 have HN:=hid hN;clear hr hn hz hN ht;go_enter Tryz.func163,Tryz.ntmps163;go_upto_region 3 with fail;go_loopw [3,4] (λnv iv wr=>Hid (SzR4 w hs nv iv wr)) (λ_ iv _=>n-(intOf iv).toNat)
 case atStart=>exact⟨0,rfl,rfl,Nat.zero_le _,Below.refl _ _⟩
 case round=>
  obtain⟨j,rfl,rfl,h0,hb⟩:=hrel;rw[HN.out]at h0;have HB:=hid hb;have t0:=(HT.out.below hb HT.out.lt).cell 0;simp only[List.getElem?_toArray,List.getElem?_cons_zero]at t0;by_cases h1:j<n
  · have hc:(j:Int)<(n:Int):=by omega
    obtain⟨x,hx⟩:∃x,hs[j]?=some x:=⟨_,List.getElem?_eq_getElem (by rw[HN.out];exact h1)⟩;have hH:=rs_hr (HN.out.symm▸HR.out.below hb);obtain⟨ad,rfl,a0,a1,a2⟩:=hH.at_ (k:=j) (by rw[HN.out];omega);have h3:hs.getD j ⟨⟨#[]⟩,⟨#[]⟩,false⟩=x:=by rw[List.getD,hx];rfl
    rw[h3]at a0 a1 a2;have h2:=HH.out.2 x (List.mem_of_getElem? hx);have h4:=hid (λW=>r3size_any x.name x.value x.never W h2.1 h2.2);have i0:(0:Int)<=(j:Int):=by omega
    have h8:=HL.out (j+1);have h5:=take_hszs hs hx;have ej:=r4a j 1 (by have:=HH.out.1;omega);have ew:=r4a (hszs (hs.take j)) (hsz x) (by have:=HH.out.1;omega);rw[<-h5]at ew;have h6:=hid (show j+1<=n/\n-(j+1)<n-j from⟨h1,by omega⟩);obtain⟨xn,xv,xb⟩:=x;simp only at a0 a1 a2 h4;clear hb h0 hx h2 hH h3 h5 h8 h1;go_wp2_with (first
     |(go_at_call 46
       refine Calls.mono (h4.out _) ?_;rintro e w2 ⟨rfl,h7⟩;have h9:=hid (HB.out.trans (h7.mono HB.out.size));clear h7)
     |fail)
    have ej':wrap64 ((j:Int)+1)=((j+1:Nat):Int):=ej;refine⟨⟨j+1,by rw[ew],by rw[ej'],by rw[HN.out];exact h6.out.1,h9.out⟩,?_⟩;rw[ej'];exact h6.out.2
  · obtain rfl:j=n:=by omega
    have hd:¬((j:Int)<(j:Int)):=by omega
    have et:hs.take j=hs:=List.take_of_length_le (Nat.le_of_eq HN.out);rw[et];clear hb h0 et;go_wp2;go_ret;exact⟨rfl,HB.out⟩
end Go.Proofs.YtkpppjhbmnfmkaaGreatDoor
end

section
set_option maxHeartbeats 4000000
set_option maxRecDepth 100000
namespace Go.Proofs.YtkpppjhbmnfmkaaGreatDoor
open Go.RowKit Go.Own Go.Own.Im Go.Own.Cx Go.Own.Fr Go.Own.Hd
attribute [local go_sem] Oper.semAt_some
def TxtS (cs:Array Value) (l:List (List UInt8)):Prop:=cs=(l.map λt=>Value.string ⟨t.toArray⟩).toArray
def namL:List (List UInt8):=[]::Hk.statL.map (·.1)
def valL:List (List UInt8):=[]::Hk.statL.map (·.2)
theorem names_any (w:World):Calls Tryz.prog 126 #[] w λe w'=>∃cs,e= .returned (.slice (some ⟨w.heap.size,0,none⟩) 62 62)/\w'=w.alloc (.cells cs 9)/\TxtS cs namL:=by
 go_enter Tryz.func126,Tryz.ntmps126;go_wp2_with fail;go_ret;refine⟨_,rfl,rfl,?_⟩;unfold TxtS namL
 kernel_rfl
theorem values_any (w:World):Calls Tryz.prog 127 #[] w λe w'=>∃cs,e= .returned (.slice (some ⟨w.heap.size,0,none⟩) 62 62)/\w'=w.alloc (.cells cs 9)/\TxtS cs valL:=by
 go_enter Tryz.func127,Tryz.ntmps127;go_wp2_with fail;go_ret;refine⟨_,rfl,rfl,?_⟩;unfold TxtS valL
 kernel_rfl
end Go.Proofs.YtkpppjhbmnfmkaaGreatDoor
end

section
set_option maxHeartbeats 1000000
namespace Go.Proofs.YtkpppjhbmnfmkaaGreatDoor
open Lib (hid)
open Go.RowKit Go.Own Go.Own.Im Go.Own.Cx Go.Own.Fr Go.Own.Hd
attribute [local go_sem] Oper.semAt_some
theorem colon6_any (hn hv:ByteArray) (ne:Bool) (w:World):Calls Tryz.prog 86 #[.agg #[.string hn,.string hv,.bool ne]] w λe w'=>e= .returned (.bool (colonB ⟨hn,hv,ne⟩))/\Below w.heap.size w w':=by
 have HX:=hid (Blk.new w 63 #[.string hn,.string hv,.bool ne]);have HB:=hid ((Below.refl w.heap.size w).alloc (Nat.le_refl _) (.cells #[.string hn,.string hv,.bool ne] 63));have hl:hn.data.toList.length=hn.size:=by simp
 by_cases h0:hn.size=0
 · have HV:=hid (show colonB ⟨hn,hv,ne⟩=false by
    have:tx hn=[]:=List.eq_nil_of_length_eq_zero (by show hn.data.toList.length=0;omega);unfold colonB;simp[this])
   have hi:((hn.size:Nat):Int)=0:=by omega
   have h1:¬(0:Int)<(hn.size:Int):=by omega
   clear hl;go_enter Tryz.func86,Tryz.ntmps86;go_upto_region 1 with fail;generalize w.alloc (.cells #[.string hn,.string hv,.bool ne] 63)=W0 at*
   have x0:=HX.out.cell 0;simp only[List.getElem?_toArray,List.getElem?_cons_zero]at x0;go_wp2_with fail;go_ret;exact⟨by rw[HV.out];rfl,HB.out⟩
 · have hp:0<hn.size:=by omega
   obtain⟨c,hc⟩:∃c,hn.data.toList.getD 0 0=c:=⟨_,rfl⟩;have HC:=hid (show hn[0]=c by rw[<-hc,List.getD,List.getElem?_eq_getElem (by simpa using hp)];rfl)
   have hne:tx hn≠[]:=λe=>by have:hn.data.toList.length=0:=by show(tx hn).length=0;rw[e];rfl
                             omega
   have HV:=hid (show colonB ⟨hn,hv,ne⟩=decide ((c.toNat:Int)=58)by
    unfold colonB;rw[show(tx hn).getD 0 0=c from hc];have:(c=58)↔((c.toNat:Int)=58):=by
     constructor
     · rintro rfl;rfl
     · intro h
       have h2:c.toNat=(58:UInt8).toNat:=by have:(58:UInt8).toNat=58:=rfl;omega
       exact UInt8.toNat_inj.1 h2
    simp[hne,this])
   have h1:(0:Int)<(hn.size:Int):=by omega
   have h3:decide ((0:Int)<(hn.size:Int))=true:=by simpa using hp
   clear hl h0 hne hc;go_enter Tryz.func86,Tryz.ntmps86;go_upto_region 1 with fail;generalize w.alloc (.cells #[.string hn,.string hv,.bool ne] 63)=W0 at*
   have x0:=HX.out.cell 0;simp only[List.getElem?_toArray,List.getElem?_cons_zero]at x0;go_wp2_with fail;go_ret;exact⟨by rw[HV.out,<-HC.out];rfl,HB.out⟩
end Go.Proofs.YtkpppjhbmnfmkaaGreatDoor
end

section
set_option maxHeartbeats 2000000
set_option maxRecDepth 100000
namespace Go.Proofs.YtkpppjhbmnfmkaaGreatDoor
open Lib (hid)
open Go.RowKit Go.Own Go.Own.Im Go.Own.Cx Go.Own.Fr Go.Own.Hd
attribute [local go_sem] Oper.semAt_some
def inL (l:List UInt8) (c:UInt8):Bool:=l.contains c
def WiI (l:List UInt8) (c:UInt8) (t:Value):Prop:=∃i,i<=l.length/\t= .int .i64 (i:Nat)/\(l.take i).contains c=false
theorem within_any (s:ByteArray) (c:UInt8) (hs:s.size<=1000) (w:World):Calls Tryz.prog 166 #[.string s,.int .u8 (c.toNat:Int)] w λe w'=>e= .returned (.bool (inL s.data.toList c))/\w'=w:=by
 have hl:s.data.toList.length=s.size:=by simp
 have HL:=hid (And.intro hl hs);obtain⟨cn,hcn⟩:∃cn,c.toNat=cn:=⟨_,rfl⟩;have HC:=hid hcn;rw[hcn];clear hl hs hcn;go_enter Tryz.func166,Tryz.ntmps166;go_upto_region 2 with fail;go_loop [5] (λt=>WiI s.data.toList c t) (λt=>s.size-toI t)
 case atStart=>exact⟨0,Nat.zero_le _,rfl,rfl⟩
 case round=>
  obtain⟨i,hi,rfl,hc⟩:=hrel;have hl:=HL.out.1;have hs:=HL.out.2;by_cases hlt:i<s.size
  · have hl1:(i:Int)<(s.size:Int):=by omega
    have h1:=idx_i64 s i hlt;obtain⟨x,hx⟩:∃x,s.data.toList.getD i 0=x:=⟨_,rfl⟩;have hx2:s.data[i]'hlt=x:=by rw[<-hx,List.getD,List.getElem?_eq_getElem (by simpa using hlt)];rfl
    have htk:s.data.toList.take (i+1)=s.data.toList.take i++[x]:=by
     rw[List.take_succ_eq_append_getElem (by omega),<-hx,List.getD,List.getElem?_eq_getElem (by omega)];rfl
    have hin:x∈s.data.toList:=by rw[<-hx,List.getD,List.getElem?_eq_getElem (by omega)];exact List.getElem_mem _
    have ej:=r4a i 1 (by omega);have ej':wrap64 ((i:Int)+1)=((i+1:Nat):Int):=ej;have HNx:=hid (show i+1<=s.data.toList.length/\s.size-(i+1)<s.size-i from⟨by omega,by omega⟩);by_cases he:x=c
    · have HR:=hid (show inL s.data.toList c=true by unfold inL;rw[<-he];simpa using hin)
      have hq:((x.toNat:Nat):Int)=(cn:Int):=by rw[he,HC.out]
      clear he;clear hl hs hx htk hin ej hi hc;go_wp2_with fail;refine bodyPost_ret (v:=.bool true) (by simp[results,Tryz.results166,go_sem]) rfl ⟨?_,rfl⟩;rw[HR.out]
    · have hqd:(((x.toNat:Nat):Int)==(cn:Int))=false:=by
       simp only[beq_eq_false_iff_ne,ne_eq];intro h;exact he (UInt8.toNat_inj.1 (by have:=HC.out;omega))
      have hq:¬((x.toNat:Nat):Int)=(cn:Int):=by
       intro h;exact he (UInt8.toNat_inj.1 (by have:=HC.out;omega))
      have HT:=hid (show(s.data.toList.take (i+1)).contains c=false by
       rw[htk,List.contains_append,hc];simp[Ne.symm he])
      clear hl hs hx htk hin ej hi hc;go_wp2_with fail;exact⟨⟨i+1,HNx.out.1,by rw[ej'],HT.out⟩,by rw[ej'];exact HNx.out.2⟩
  · obtain rfl:i=s.size:=by omega
    have hl1:¬((s.size:Nat):Int)<(s.size:Int):=by omega
    have HR:=hid (show inL s.data.toList c=false by unfold inL;rw[<-hc,<-hl,List.take_length]);clear hl hs hi hc;go_wp2_with fail;go_ret;exact⟨by rw[HR.out];rfl,rfl⟩
end Go.Proofs.YtkpppjhbmnfmkaaGreatDoor
end

section
set_option maxHeartbeats 4000000
set_option maxRecDepth 100000
namespace Go.Own.Hd
open Lib (hid)
theorem name_byte:(List.range 256).all (λn=>nameC (UInt8.ofNat n)==(decide (97<=n/\n<=122)||decide (48<=n/\n<=57)||[33,35,36,37,38,39,42,43,45,46,94,95,96,124,126].contains (UInt8.ofNat n)))=true:=by kernel_rfl
theorem name_c (c:UInt8):nameC c=(decide (97<=c.toNat/\c.toNat<=122)||decide (48<=c.toNat/\c.toNat<=57)||[33,35,36,37,38,39,42,43,45,46,94,95,96,124,126].contains c):=by
 have h:=List.all_eq_true.1 name_byte c.toNat (List.mem_range.2 c.toNat_lt);have e:UInt8.ofNat c.toNat=c:=by simp
 rw[e]at h;exact eq_of_beq h
end Go.Own.Hd
namespace Go.Proofs.YtkpppjhbmnfmkaaGreatDoor
open Lib (hid)
open Go.RowKit Go.Own Go.Own.Im Go.Own.Cx Go.Own.Fr Go.Own.Hd
attribute [local go_sem] Oper.semAt_some
theorem rm_wsub1 (n:Nat) (h0:0<n) (h:n<=1000000000):wrap64 ((n:Int)-1)=((n-1:Nat):Int):=by unfold wrap64;omega
theorem beqi {a b:Int} (h:¬a=b):(a==b)=false:=beq_false_of_ne h
def NmI (l:List UInt8) (t:Value):Prop:=∃i,i<=l.length/\t= .int .i64 (i:Nat)/\(l.take i).all nameC=true
theorem all_one {l:List UInt8} {i:Nat} {x:UInt8} {p:UInt8->Bool} (h:(l.take i).all p=true) (hx:l[i]?=some x) (hp:p x=true):(l.take (i+1)).all p=true:=by
 obtain⟨hl,e⟩:=List.getElem?_eq_some_iff.1 hx;rw[List.take_succ_eq_append_getElem hl,e,List.all_append,h];simp[hp]
theorem all_bad {l:List UInt8} {i:Nat} {x:UInt8} {p:UInt8->Bool} (hx:l[i]?=some x) (hp:p x=false):l.all p=false:=by
 rw[List.all_eq_false];exact⟨x,List.mem_of_getElem? hx,by simp[hp]⟩
theorem rname_any (s:ByteArray) (hs:s.size<=1000000000) (w:World):Calls Tryz.prog 131 #[.string s] w λe w'=>e= .returned (.bool (nameB s.data.toList))/\w'=w:=by
 have hl:s.data.toList.length=s.size:=by simp
 have HL:=hid (And.intro hl hs);clear hl hs;go_enter Tryz.func131,Tryz.ntmps131;go_upto_region 2 with fail;go_loop [3] (λt=>NmI s.data.toList t) (λt=>s.size-toI t)
 case atStart=>exact⟨0,Nat.zero_le _,rfl,rfl⟩
 case round=>
  obtain⟨i,hi,rfl,h0⟩:=hrel;have hl:=HL.out.1;have hs:=HL.out.2;by_cases h8:i<s.size
  · have hk:(i:Int)<(s.size:Int):=by omega
    have h1:=idx_i64 s i h8;obtain⟨x,hx⟩:∃x,s.data.toList[i]?=some x:=⟨_,List.getElem?_eq_getElem (by omega)⟩;have hc:s.data.toList.getD i 0=x:=by rw[List.getD,hx];rfl
    rw[hc]at h1;have HX:=hid hx;have HW:=hid (λW=>within_any ⟨#[33,35,36,37,38,39,42,43,45,46,94,95,96,124,126]⟩ x (by decide) W);have HC:=hid (name_c x);have HA:=hid h0;have h6:=hid (show i+1<=s.data.toList.length/\s.size-(i+1)<s.size-i from⟨by omega,by omega⟩);have hd:i<=1000000000000:=by omega
    have ej:=zs4 i hd;obtain⟨sb,h9⟩:∃b,inL [33,35,36,37,38,39,42,43,45,46,94,95,96,124,126] x=b:=⟨_,rfl⟩;have hb:=hid (λW=>(show Calls Tryz.prog 166 #[.string ⟨#[33,35,36,37,38,39,42,43,45,46,94,95,96,124,126]⟩,.int .u8 (x.toNat:Int)] W λe w'=>e= .returned (.bool sb)/\w'=W from by
     rw[<-h9];exact HW.out W))
    have h7:Hid (nameC x=(decide (97<=x.toNat/\x.toNat<=122)||decide (48<=x.toNat/\x.toNat<=57)||sb)):=hid (by rw[<-h9];exact HC.out);clear hi h8 hl hs hx hc h0 HW HC h9 hd;obtain⟨cn,he⟩:∃cn,x.toNat=cn:=⟨_,rfl⟩;rw[he]at h1 hb h7;clear he;have yes:nameC x=true->NmI s.data.toList (.int .i64 ((i+1:Nat):Int)):=λhp=>⟨i+1,h6.out.1,rfl,all_one HA.out HX.out hp⟩;have no:nameC x=false->nameB s.data.toList=false:=λhp=>by unfold nameB;rw[all_bad HX.out hp,Bool.and_false]
    have h5:=hid yes;have hm:=hid no;clear yes no HA HX;by_cases h2:97<=cn/\cn<=122
    · have a1:(97:Int)<=(cn:Int):=by omega
      have a2:(cn:Int)<=122:=by omega
      have HT:=hid (h5.out (by rw[h7.out];simp[h2]));clear h2;go_wp2_with fail;exact⟨by rw[ej];exact HT.out,by rw[ej];exact h6.out.2⟩
    · by_cases h3:48<=cn/\cn<=57
      · have a1:¬(97:Int)<=(cn:Int):=by omega
        have a3:(48:Int)<=(cn:Int):=by omega
        have a4:(cn:Int)<=57:=by omega
        have HT:=hid (h5.out (by rw[h7.out];simp[h3]));clear h2 h3;go_wp2_with fail;exact⟨by rw[ej];exact HT.out,by rw[ej];exact h6.out.2⟩
      · have hf:nameC x=sb:=by rw[h7.out,decide_eq_false h2,decide_eq_false h3];simp
        have hh:=hid hf;clear hf;have h4:(¬(97:Int)<=(cn:Int)/\¬(48:Int)<=(cn:Int))\/(¬(97:Int)<=(cn:Int)/\(48:Int)<=(cn:Int)/\¬(cn:Int)<=57)\/((97:Int)<=(cn:Int)/\¬(cn:Int)<=122/\(48:Int)<=(cn:Int)/\¬(cn:Int)<=57):=by omega
        clear h2 h3;cases sb with
        |true=>
         have HT:=hid (h5.out hh.out);rcases h4 with⟨a1,a2⟩|⟨a1,a2,a3⟩|⟨a1,a2,a3,a4⟩
         all_goals
          go_wp2_with (first
           |(go_at_call 166
             with_reducible refine Calls.mono (hb.out _) ?_
             rintro e w2 ⟨rfl,hw⟩;subst w2)
           |fail)
          exact⟨by rw[ej];exact HT.out,by rw[ej];exact h6.out.2⟩
        |false=>
         have HT:=hid (hm.out hh.out);rcases h4 with⟨a1,a2⟩|⟨a1,a2,a3⟩|⟨a1,a2,a3,a4⟩
         all_goals
          go_wp2_with (first
           |(go_at_call 166
             with_reducible refine Calls.mono (hb.out _) ?_
             rintro e w2 ⟨rfl,hw⟩;subst w2)
           |fail)
          refine bodyPost_ret (v:=.bool false) (by simp[results,Tryz.results131,go_sem]) rfl ⟨?_,rfl⟩;rw[HT.out]
  · obtain rfl:i=s.size:=by omega
    have hk:¬((s.size:Nat):Int)<(s.size:Int):=by omega
    have hj:s.data.toList.take s.size=s.data.toList:=by rw[<-hl];exact List.take_length
    rw[hj]at h0;have HR:=hid (show nameB s.data.toList=decide (0<s.size)by
     unfold nameB;rw[h0,Bool.and_true,<-hl];cases s.data.toList with
     |nil=>rfl
     |cons a b=>simp)
    clear hl hs hi hj h0 h8;go_wp2_with fail;go_ret;exact⟨by rw[HR.out];rfl,rfl⟩
theorem blank_is (c:UInt8):blankB c=(c.toNat==32||c.toNat==9):=by
 unfold blankB;have h1:∀n<256,(UInt8.ofNat n==32||UInt8.ofNat n==9)=(n==32||n==9):=by decide+kernel
 have h2:=h1 c.toNat c.toNat_lt;rw[show UInt8.ofNat c.toNat=c by simp]at h2;exact h2
theorem crl_is (c:UInt8):[(0:UInt8),13,10].contains c=(c.toNat==0||c.toNat==10||c.toNat==13):=by
 have h1:∀n<256,[(0:UInt8),13,10].contains (UInt8.ofNat n)=(n==0||n==10||n==13):=by decide+kernel
 have h2:=h1 c.toNat c.toNat_lt;rw[show UInt8.ofNat c.toNat=c by simp]at h2;exact h2
def VlI (l:List UInt8) (t:Value):Prop:=∃i,i<=l.length/\t= .int .i64 (i:Nat)/\Hid (Lib.NoAny l [0,13,10] i)
theorem value_split (l:List UInt8) (h:Lib.NoAny l [0,13,10] l.length):valueB l=(l.isEmpty||(!blankB (l.getD 0 0)&& !blankB (l.getD (l.length-1) 0))):=by
 unfold valueB Lib.containsAny;rw[Lib.indexAny_none h]
 rfl
theorem value_hit {l:List UInt8} {i:Nat} {x:UInt8} (h:Lib.NoAny l [0,13,10] i) (hx:l[i]?=some x) (hc:[(0:UInt8),13,10].contains x=true):valueB l=false:=by
 unfold valueB Lib.containsAny;rw[Lib.indexAny_hit h hx hc];simp
theorem rvalue_any (s:ByteArray) (hs:s.size<=1000000000) (w:World):Calls Tryz.prog 52 #[.string s] w λe w'=>e= .returned (.bool (valueB s.data.toList))/\w'=w:=by
 have hl:s.data.toList.length=s.size:=by simp
 have HL:=hid (And.intro hl hs);clear hl hs;go_enter Tryz.func52,Tryz.ntmps52;go_upto_region 2 with fail;go_loop [3] (λt=>VlI s.data.toList t) (λt=>s.size-toI t)
 case atStart=>exact⟨0,Nat.zero_le _,rfl,hid (Lib.NoAny.zero _ _)⟩
 case round=>
  obtain⟨i,hi,rfl,h3⟩:=hrel;have hl:=HL.out.1;have hs:=HL.out.2;by_cases h5:i<s.size
  · have hj:(i:Int)<(s.size:Int):=by omega
    have h1:=idx_i64 s i h5;obtain⟨x,hx⟩:∃x,s.data.toList[i]?=some x:=⟨_,List.getElem?_eq_getElem (by omega)⟩;have h8:s.data.toList.getD i 0=x:=by rw[List.getD,hx];rfl
    rw[h8]at h1;have HX:=hid hx;have HC:=hid (crl_is x);have h9:=hid (show i+1<=s.data.toList.length/\s.size-(i+1)<s.size-i from⟨by omega,by omega⟩);have hc:i<=1000000000000:=by omega
    have ej:=zs4 i hc;clear hi h5 hl hs hx h8 hc;obtain⟨cn,hd⟩:∃cn,x.toNat=cn:=⟨_,rfl⟩;rw[hd]at h1 HC;clear hd;by_cases hb:cn=0\/cn=10\/cn=13
    · have HT:=hid (value_hit h3.out HX.out (by rw[HC.out];rcases hb with rfl|rfl|rfl<;>rfl))
      rcases hb with rfl|rfl|rfl
      all_goals
       go_wp2_with fail;refine bodyPost_ret (v:=.bool false) (by simp[results,Tryz.results52,go_sem]) rfl ⟨?_,rfl⟩;rw[HT.out]
    · have HT:=hid (h3.out.succ HX.out (by rw[HC.out];simp;omega))
      have a1:¬(cn:Int)=0:=by omega
      have a2:¬(cn:Int)=10:=by omega
      have a3:¬(cn:Int)=13:=by omega
      have b1:=beqi a1;have b2:=beqi a2;have b3:=beqi a3;clear hb h3;go_wp2_with fail;exact⟨⟨i+1,h9.out.1,by rw[ej],HT⟩,by rw[ej];exact h9.out.2⟩
  · obtain rfl:i=s.size:=by omega
    have hj:¬((s.size:Nat):Int)<(s.size:Int):=by omega
    have h2:=h3.out;rw[<-hl]at h2;have HR:=hid (value_split _ h2);by_cases h0:s.size=0
    · have he:((s.size:Nat):Int)=0:=by omega
      have h4:=hid (show valueB s.data.toList=true by
       rw[HR.out];have:s.data.toList=[]:=List.eq_nil_of_length_eq_zero (by omega);rw[this];rfl)
      clear hl hs hi h3 h5 h2;go_wp2_with fail;go_ret;exact⟨by rw[h4.out];rfl,rfl⟩
    · have he:¬((s.size:Nat):Int)=0:=by omega
      have hk:=beqi he;have hf:=idx_i64 s 0 (by omega);have h6:=idx_i64 s (s.size-1) (by omega);have h7:=rm_wsub1 s.size (by omega) hs;obtain⟨x,hx⟩:∃x,s.data.toList.getD 0 0=x:=⟨_,rfl⟩;obtain⟨y,hy⟩:∃y,s.data.toList.getD (s.size-1) 0=y:=⟨_,rfl⟩;rw[hx]at hf;rw[hy]at h6;have h4:=hid (show valueB s.data.toList=(!blankB x&& !blankB y)by
       rw[HR.out,hl,hx,hy];cases hq:s.data.toList with
       |nil=>rw[hq]at hl;simp at hl;omega
       |cons a b=>rfl)
      rw[blank_is,blank_is]at h4;obtain⟨a,ha⟩:∃a,x.toNat=a:=⟨_,rfl⟩;obtain⟨b,hb⟩:∃b,y.toNat=b:=⟨_,rfl⟩;rw[ha]at hf;rw[hb]at h6;have hm:∀h:0<s.size,(s[0]'h).toNat=a:=λh=>by
       rw[<-ha,<-hx,List.getD,List.getElem?_eq_getElem (by omega)];rfl
      have hn:0<s.size:=by omega
      rw[ha,hb]at h4;obtain⟨sl,hh⟩:∃sl,s.size-1=sl:=⟨_,rfl⟩;rw[hh]at h6 h7;clear hl hs hi h3 h5 h2 ha hb hh hx hy HR;by_cases e1:a=32
      · subst e1
        go_wp2_with fail;go_ret;exact⟨by rw[h4.out];rfl,rfl⟩
      · by_cases e2:a=9
        · subst e2
          have b1:=beqi (show¬(9:Int)=32 by decide);go_wp2_with fail;go_ret;exact⟨by rw[h4.out];rfl,rfl⟩
        · have a1:¬(a:Int)=32:=by omega
          have a2:¬(a:Int)=9:=by omega
          have b1:=beqi a1;have b2:=beqi a2;by_cases e3:b=32
          · subst e3
            go_wp2_with fail;go_ret;exact⟨by rw[h4.out];simp,rfl⟩
          · by_cases e4:b=9
            · subst e4
              have b3:=beqi (show¬(9:Int)=32 by decide);go_wp2_with fail;go_ret;exact⟨by rw[h4.out];simp,rfl⟩
            · have a3:¬(b:Int)=32:=by omega
              have a4:¬(b:Int)=9:=by omega
              have b3:=beqi a3;have b4:=beqi a4;go_wp2_with fail;go_ret;refine⟨?_,rfl⟩;rw[h4.out];have n1:(a==32)=false:=beq_false_of_ne e1;have n2:(a==9)=false:=beq_false_of_ne e2;have n3:(b==32)=false:=beq_false_of_ne e3;have n4:(b==9)=false:=beq_false_of_ne e4;simp only[bne,b1,b2,b3,b4,n1,n2,n3,n4]
              rfl
end Go.Proofs.YtkpppjhbmnfmkaaGreatDoor
end

section
set_option maxHeartbeats 4000000
set_option maxRecDepth 100000
namespace Go.Proofs.YtkpppjhbmnfmkaaGreatDoor
open Lib (hid)
open Go.RowKit Go.Own Go.Own.Im Go.Own.Cx Go.Own.Fr Go.Own.Hd
attribute [local go_sem] Oper.semAt_some
def doc6 (nb vb b1 b2 b3 b4 b5 b6 b7:Bool):Bool:=nb&&vb&& !(b1||b2||b3||b4||b5)&&(!b6||b7)
theorem doc_bits (h:HdrV):plainB h=doc6 (nameB (tx h.name)) (valueB (tx h.value)) (h.name.toList==[99,111,110,110,101,99,116,105,111,110]) (h.name.toList==[112,114,111,120,121,45,99,111,110,110,101,99,116,105,111,110]) (h.name.toList==[107,101,101,112,45,97,108,105,118,101]) (h.name.toList==[116,114,97,110,115,102,101,114,45,101,110,99,111,100,105,110,103]) (h.name.toList==[117,112,103,114,97,100,101]) (h.name.toList==[116,101]) (h.value.toList==[116,114,97,105,108,101,114,115]):=by
 rw[H6.plain_bits];have h6:(h.name.toList==[116,101])=true->nameB (tx h.name)=true:=λe=>by
  have e:=eq_of_beq e;rw[Lib.toList_data]at e;rw[show tx h.name=_ from e]
  decide+kernel
 have h7:(h.value.toList==[116,114,97,105,108,101,114,115])=true->valueB (tx h.value)=true:=λe=>by
  have e:=eq_of_beq e;rw[Lib.toList_data]at e;rw[show tx h.value=_ from e]
  decide+kernel
 generalize (h.name.toList==[116,101])=b6 at*
 generalize (h.value.toList==[116,114,97,105,108,101,114,115])=b7 at*
 generalize nameB (tx h.name)=nb at*
 generalize valueB (tx h.value)=vb at*
 generalize (h.name.toList==[99,111,110,110,101,99,116,105,111,110])=b1;generalize (h.name.toList==[112,114,111,120,121,45,99,111,110,110,101,99,116,105,111,110])=b2;generalize (h.name.toList==[107,101,101,112,45,97,108,105,118,101])=b3;generalize (h.name.toList==[116,114,97,110,115,102,101,114,45,101,110,99,111,100,105,110,103])=b4;generalize (h.name.toList==[117,112,103,114,97,100,101])=b5;unfold H6.plain6 doc6;clear h;cases b6<;>cases b7<;>cases nb<;>cases vb<;>cases b1<;>cases b2<;>cases b3<;>cases b4<;>cases b5<;>first|rfl|(exfalso;simp at h6 h7)
theorem rplain_any (hn hv:ByteArray) (ne:Bool) (w:World) (h1:hn.size<=1000000000) (h2:hv.size<=1000000000):
 Calls Tryz.prog 87 #[.agg #[.string hn,.string hv,.bool ne]] w λe w'=>e= .returned (.bool (plainB ⟨hn,hv,ne⟩))/\Below w.heap.size w w':=by
 have HX:=hid (Blk.new w 63 #[.string hn,.string hv,.bool ne]);have HB:=hid ((Below.refl w.heap.size w).alloc (Nat.le_refl _) (.cells #[.string hn,.string hv,.bool ne] 63));have HP:=hid (doc_bits ⟨hn,hv,ne⟩);have HN:=hid (λW=>rname_any hn h1 W);have HV:=hid (λW=>rvalue_any hv h2 W);clear h1 h2;obtain⟨pb,h3⟩:∃pb,plainB ⟨hn,hv,ne⟩=pb:=⟨_,rfl⟩;have h0:Hid (pb=_):=hid (h3.symm.trans HP.out);clear HP;rw[h3];clear h3;simp only at h0;obtain⟨nb,h4⟩:∃b,nameB hn.data.toList=b:=⟨_,rfl⟩;obtain⟨vb,h5⟩:∃b,valueB hv.data.toList=b:=⟨_,rfl⟩;rw[h4]at HN;rw[h5]at HV;rw[show nameB (tx hn)=nb from h4,show valueB (tx hv)=vb from h5]at h0;obtain⟨b1,h6⟩:∃b,(hn.toList==[99,111,110,110,101,99,116,105,111,110])=b:=⟨_,rfl⟩;obtain⟨b2,h7⟩:∃b,(hn.toList==[112,114,111,120,121,45,99,111,110,110,101,99,116,105,111,110])=b:=⟨_,rfl⟩;obtain⟨b3,h8⟩:∃b,(hn.toList==[107,101,101,112,45,97,108,105,118,101])=b:=⟨_,rfl⟩;obtain⟨b4,h9⟩:∃b,(hn.toList==[116,114,97,110,115,102,101,114,45,101,110,99,111,100,105,110,103])=b:=⟨_,rfl⟩;obtain⟨b5,hb⟩:∃b,(hn.toList==[117,112,103,114,97,100,101])=b:=⟨_,rfl⟩;obtain⟨b6,hc⟩:∃b,(hn.toList==[116,101])=b:=⟨_,rfl⟩;obtain⟨b7,hd⟩:∃b,(hv.toList==[116,114,97,105,108,101,114,115])=b:=⟨_,rfl⟩;rw[h6,h7,h8,h9,hb,hc,hd]at h0;clear h4 h5;cases nb with
 |false=>
  go_enter Tryz.func87,Tryz.ntmps87;go_upto_region 1 with fail;generalize w.alloc (.cells #[.string hn,.string hv,.bool ne] 63)=W0 at*
  have x0:=HX.out.cell 0;have x1:=HX.out.cell 1;simp only[List.getElem?_toArray,List.getElem?_cons_zero,List.getElem?_cons_succ]at x0 x1;go_wp2_with (first
   |(go_at_call 131
     with_reducible refine Calls.mono (HN.out _) ?_
     rintro e w2 ⟨rfl,hw⟩;subst w2)
   |(go_at_call 52
     with_reducible refine Calls.mono (HV.out _) ?_
     rintro e w2 ⟨rfl,hw⟩;subst w2)
   |fail)
  go_ret;exact⟨by rw[h0.out];first|rfl|simp[doc6],HB.out⟩
 |true=>
  cases vb with
  |false=>
   go_enter Tryz.func87,Tryz.ntmps87;go_upto_region 1 with fail;generalize w.alloc (.cells #[.string hn,.string hv,.bool ne] 63)=W0 at*
   have x0:=HX.out.cell 0;have x1:=HX.out.cell 1;simp only[List.getElem?_toArray,List.getElem?_cons_zero,List.getElem?_cons_succ]at x0 x1;go_wp2_with (first
    |(go_at_call 131
      with_reducible refine Calls.mono (HN.out _) ?_
      rintro e w2 ⟨rfl,hw⟩;subst w2)
    |(go_at_call 52
      with_reducible refine Calls.mono (HV.out _) ?_
      rintro e w2 ⟨rfl,hw⟩;subst w2)
    |fail)
   go_ret;exact⟨by rw[h0.out];first|rfl|simp[doc6],HB.out⟩
  |true=>
   cases b1 with
   |true=>
    go_enter Tryz.func87,Tryz.ntmps87;go_upto_region 1 with fail;generalize w.alloc (.cells #[.string hn,.string hv,.bool ne] 63)=W0 at*
    have x0:=HX.out.cell 0;have x1:=HX.out.cell 1;simp only[List.getElem?_toArray,List.getElem?_cons_zero,List.getElem?_cons_succ]at x0 x1;go_wp2_with (first
     |(go_at_call 131
       with_reducible refine Calls.mono (HN.out _) ?_
       rintro e w2 ⟨rfl,hw⟩;subst w2)
     |(go_at_call 52
       with_reducible refine Calls.mono (HV.out _) ?_
       rintro e w2 ⟨rfl,hw⟩;subst w2)
     |fail)
    go_ret;exact⟨by rw[h0.out];first|rfl|simp[doc6],HB.out⟩
   |false=>
    cases b2 with
    |true=>
     go_enter Tryz.func87,Tryz.ntmps87;go_upto_region 1 with fail;generalize w.alloc (.cells #[.string hn,.string hv,.bool ne] 63)=W0 at*
     have x0:=HX.out.cell 0;have x1:=HX.out.cell 1;simp only[List.getElem?_toArray,List.getElem?_cons_zero,List.getElem?_cons_succ]at x0 x1;go_wp2_with (first
      |(go_at_call 131
        with_reducible refine Calls.mono (HN.out _) ?_
        rintro e w2 ⟨rfl,hw⟩;subst w2)
      |(go_at_call 52
        with_reducible refine Calls.mono (HV.out _) ?_
        rintro e w2 ⟨rfl,hw⟩;subst w2)
      |fail)
     go_ret;exact⟨by rw[h0.out];first|rfl|simp[doc6],HB.out⟩
    |false=>
     cases b3 with
     |true=>
      go_enter Tryz.func87,Tryz.ntmps87;go_upto_region 1 with fail;generalize w.alloc (.cells #[.string hn,.string hv,.bool ne] 63)=W0 at*
      have x0:=HX.out.cell 0;have x1:=HX.out.cell 1;simp only[List.getElem?_toArray,List.getElem?_cons_zero,List.getElem?_cons_succ]at x0 x1;go_wp2_with (first
       |(go_at_call 131
         with_reducible refine Calls.mono (HN.out _) ?_
         rintro e w2 ⟨rfl,hw⟩;subst w2)
       |(go_at_call 52
         with_reducible refine Calls.mono (HV.out _) ?_
         rintro e w2 ⟨rfl,hw⟩;subst w2)
       |fail)
      go_ret;exact⟨by rw[h0.out];first|rfl|simp[doc6],HB.out⟩
     |false=>
      cases b4 with
      |true=>
       go_enter Tryz.func87,Tryz.ntmps87;go_upto_region 1 with fail;generalize w.alloc (.cells #[.string hn,.string hv,.bool ne] 63)=W0 at*
       have x0:=HX.out.cell 0;have x1:=HX.out.cell 1;simp only[List.getElem?_toArray,List.getElem?_cons_zero,List.getElem?_cons_succ]at x0 x1;go_wp2_with (first
        |(go_at_call 131
          with_reducible refine Calls.mono (HN.out _) ?_
          rintro e w2 ⟨rfl,hw⟩;subst w2)
        |(go_at_call 52
          with_reducible refine Calls.mono (HV.out _) ?_
          rintro e w2 ⟨rfl,hw⟩;subst w2)
        |fail)
       go_ret;exact⟨by rw[h0.out];first|rfl|simp[doc6],HB.out⟩
      |false=>
       cases b5 with
       |true=>
        go_enter Tryz.func87,Tryz.ntmps87;go_upto_region 1 with fail;generalize w.alloc (.cells #[.string hn,.string hv,.bool ne] 63)=W0 at*
        have x0:=HX.out.cell 0;have x1:=HX.out.cell 1;simp only[List.getElem?_toArray,List.getElem?_cons_zero,List.getElem?_cons_succ]at x0 x1;go_wp2_with (first
         |(go_at_call 131
           with_reducible refine Calls.mono (HN.out _) ?_
           rintro e w2 ⟨rfl,hw⟩;subst w2)
         |(go_at_call 52
           with_reducible refine Calls.mono (HV.out _) ?_
           rintro e w2 ⟨rfl,hw⟩;subst w2)
         |fail)
        go_ret;exact⟨by rw[h0.out];first|rfl|simp[doc6],HB.out⟩
       |false=>
        cases b6 with
        |true=>
         go_enter Tryz.func87,Tryz.ntmps87;go_upto_region 1 with fail;generalize w.alloc (.cells #[.string hn,.string hv,.bool ne] 63)=W0 at*
         have x0:=HX.out.cell 0;have x1:=HX.out.cell 1;simp only[List.getElem?_toArray,List.getElem?_cons_zero,List.getElem?_cons_succ]at x0 x1;go_wp2_with (first
          |(go_at_call 131
            with_reducible refine Calls.mono (HN.out _) ?_
            rintro e w2 ⟨rfl,hw⟩;subst w2)
          |(go_at_call 52
            with_reducible refine Calls.mono (HV.out _) ?_
            rintro e w2 ⟨rfl,hw⟩;subst w2)
          |fail)
         go_ret;exact⟨by rw[h0.out];first|rfl|simp[doc6],HB.out⟩
        |false=>
         go_enter Tryz.func87,Tryz.ntmps87;go_upto_region 1 with fail;generalize w.alloc (.cells #[.string hn,.string hv,.bool ne] 63)=W0 at*
         have x0:=HX.out.cell 0;have x1:=HX.out.cell 1;simp only[List.getElem?_toArray,List.getElem?_cons_zero,List.getElem?_cons_succ]at x0 x1;go_wp2_with (first
          |(go_at_call 131
            with_reducible refine Calls.mono (HN.out _) ?_
            rintro e w2 ⟨rfl,hw⟩;subst w2)
          |(go_at_call 52
            with_reducible refine Calls.mono (HV.out _) ?_
            rintro e w2 ⟨rfl,hw⟩;subst w2)
          |fail)
         go_ret;exact⟨by rw[h0.out];first|rfl|simp[doc6],HB.out⟩
end Go.Proofs.YtkpppjhbmnfmkaaGreatDoor
end

section
set_option maxHeartbeats 8000000
set_option maxRecDepth 100000
namespace Go.Proofs.YtkpppjhbmnfmkaaGreatDoor
open Lib (hid)
open Go.RowKit Go.Own Go.Own.Im Go.Own.Cx Go.Own.Fr Go.Own.Hd
attribute [local go_sem] Oper.semAt_some
def RT (w:World) (tb:Nat) (E:List HdrV) (mo:Nat):Prop:=∃A c,Blk w tb 160 #[.slice A E.length c,.int .i64 (mo:Nat)]/\Cm.RS hdrC 3 w w.heap.size A E.length E.reverse/\E.length<=c/\(∀ad,A=some ad->ad.block≠tb)
theorem RT.lt {w:World} {tb:Nat} {E:List HdrV} {mo:Nat} (h:RT w tb E mo):tb<w.heap.size:=by
 obtain⟨A,c,h1,_⟩:=h;exact h1.lt
theorem RT.grown {w w':World} {tb:Nat} {E:List HdrV} {mo:Nat} {row:Option Nat} (h:RT w tb E mo) (hg:w.grownBy w' row) (hr:∀g,row=some g->w.heap.size<=g):RT w' tb E mo:=by
 obtain⟨A,c,h1,h2,h3,h4⟩:=h;exact⟨A,c,h1.grown hg (λe=>by have:=hr tb e.symm;have:=h1.lt;omega),(h2.keep hg.size λad _ _ h0=>hg.block _ h0 (λe=>by have:=hr _ e.symm;omega)).more hg.size,h3,h4⟩
theorem RT.below {w w':World} {tb:Nat} {E:List HdrV} {mo:Nat} (h:RT w tb E mo) (hb:Below w.heap.size w w'):RT w' tb E mo:=h.grown (grown_of_below hb none) (λg e=>by cases e)
structure FewH (E:List HdrV):Prop where
 len:E.length<=300
 sz:∀x∈E,x.name.size<=1000000/\x.value.size<=1000000
theorem FewH.tail {E:List HdrV} (h:FewH E):FewH E.tail:=⟨by have:=h.len;rw[List.length_tail];omega,λx hx=>h.sz x (List.mem_of_mem_tail hx)⟩
theorem FewH.hzs {E:List HdrV} (h:FewH E):hszs E<=1000000000:=by
 have h1:∀n,E.length<=n->hszs E<=2000032*n:=by
  intro n hn;have h2:=h.sz;clear h
  induction E generalizing n with
  |nil=>simp[hszs]
  |cons x E ih=>
   have h3:=h2 x (by simp);have h4:=ih (n-1) (by simp at hn;omega) (λy hy=>h2 y (by simp[hy]));simp only[hszs,List.map_cons,List.sum_cons]at h4 ⊢;unfold hsz at*
   simp at hn;omega
 have:=h1 300 h.len;omega
structure RmI (w:World) (tb:Nat) (E:List HdrV) (mo m:Nat) (E1:List HdrV) (wr:World):Prop where
 rt:RT wr tb E1 mo
 sh:Hk.shrink m E1=Hk.shrink m E
 few:FewH E1
 gr:w.grownBy wr (some tb)
def lenR (wr:World) (tb:Nat):Nat:=match wr.cell? ⟨tb,0,none⟩with
 |some (.slice _ n _)=>n
 |_=>0
theorem lenR_of {wr:World} {tb n c:Nat} {A:Option Addr} (h:wr.cell? ⟨tb,0,none⟩=some (.slice A n c)):lenR wr tb=n:=by unfold lenR;rw[h]
theorem rs_take {A:Option Addr} {w:World} {B n m:Nat} {l:List HdrV} (h:Cm.RS hdrC 3 w B A n l) (hm:m<=n):Cm.RS hdrC 3 w B A m (l.take m):=
 ⟨by rw[List.length_take,h.1];omega,λj x hx=>by
   rw[List.getElem?_take]at hx
   split at hx
   · exact h.2 j x hx
   · cases hx⟩
theorem rm_wadd (a b:Nat) (h:a<=1000000000) (h2:b<=1000000000):wrap64 ((a:Int)+(b:Int))=((a+b:Nat):Int)/\IntKind.i64.wrap ((a:Int)+(b:Int))=((a+b:Nat):Int):=by
 constructor
 · unfold wrap64;omega
 · rw[IntKind.wrap_i64];omega
theorem rm_wsub (n:Nat) (h0:0<n) (h:n<=1000000000):wrap64 ((n:Int)-1)=((n-1:Nat):Int)/\IntKind.i64.wrap ((n:Int)-1)=((n-1:Nat):Int):=by
 constructor
 · unfold wrap64;omega
 · rw[IntKind.wrap_i64];omega
theorem hw_rs {w:World} {base n c:Nat} {A:Option Addr} {l:List HdrV} (h:H6.Hw w base (.slice A n c) l):Cm.RS hdrC 3 w w.heap.size A n l/\(∀ad,A=some ad->base<=ad.block)/\n<=c/\n=l.length:=by
 have h1:Cm.Ew hdrC 63 3 w base (.slice A n c) l:=by
  have h0:w.ownsRow base 63 3 (.slice A n c) l.length (H6.hcells l):=h;rw[hcells_flat]at h0;exact h0
 obtain⟨A',c',e,hl,_⟩:=h1.form;injection e with e1 e2 e3
 subst e1 e3;exact⟨h1.rs (λ_=>rfl) (by decide),h1.from,by rw[e2];exact hl,e2⟩
theorem rt_store {w2:World} {tb mo:Nat} {E:List HdrV} {A2:Option Addr} {c2 base n:Nat} {v0:Value} (ho:H6.Hw w2 base (.slice A2 n c2) E.reverse) (h0:Blk w2 tb 160 #[v0,.int .i64 (mo:Nat)]) (hb:tb<base):RT (w2.setCell ⟨tb,0,none⟩ (.slice A2 n c2)) tb E mo:=by
 obtain⟨h1,h2,h3,h4⟩:=hw_rs ho;have h5:∀ad,A2=some ad->ad.block≠tb:=λad e=>by have:=h2 ad e;omega
 rw[List.length_reverse]at h4;subst h4;have h6:=h0.put 0 (.slice A2 E.length c2);simp only[List.setIfInBounds_toArray,List.set_cons_zero,List.set_cons_succ]at h6;refine⟨A2,c2,h6,(h1.setCell (p:=⟨tb,0,none⟩) h5 _).more (by simp[World.setCell]),h3,h5⟩
def RTa (w:World) (tb:Nat) (E:List HdrV) (mo:Nat) (A:Option Addr) (c:Nat):Prop:=Blk w tb 160 #[.slice A E.length c,.int .i64 (mo:Nat)]/\Cm.RS hdrC 3 w w.heap.size A E.length E.reverse/\E.length<=c/\(∀ad,A=some ad->ad.block≠tb)
theorem RT.row {w:World} {tb:Nat} {E:List HdrV} {mo:Nat} (h:RT w tb E mo):∃A c,RTa w tb E mo A c:=h
theorem RTa.rt {w:World} {tb:Nat} {E:List HdrV} {mo:Nat} {A:Option Addr} {c:Nat} (h:RTa w tb E mo A c):RT w tb E mo:=⟨A,c,h⟩
theorem RTa.grown {w w':World} {tb:Nat} {E:List HdrV} {mo:Nat} {A:Option Addr} {c:Nat} {row:Option Nat} (h:RTa w tb E mo A c) (hg:w.grownBy w' row) (h1:row≠some tb) (h2:0<E.length->∀ad,A=some ad->row≠some ad.block):RTa w' tb E mo A c:=by
 obtain⟨a1,a2,a3,a4⟩:=h;by_cases h0:E.length=0
 · have hE:E=[]:=List.eq_nil_of_length_eq_zero h0
   subst hE;exact⟨a1.grown hg (λe=>h1 e.symm),⟨rfl,λj x hx=>by simp at hx⟩,a3,a4⟩
 exact⟨a1.grown hg (λe=>h1 e.symm),(a2.keep hg.size λad e _ h3=>hg.block _ h3 (λe'=>h2 (by omega) ad e e'.symm)).more hg.size,a3,a4⟩
theorem rt_store2 {w2:World} {tb mo:Nat} {E:List HdrV} {A2:Option Addr} {c2 base n:Nat} {v0:Value} (ho:H6.Hw w2 base (.slice A2 n c2) E.reverse) (h0:Blk w2 tb 160 #[v0,.int .i64 (mo:Nat)]) (hb:tb<base):RTa (w2.setCell ⟨tb,0,none⟩ (.slice A2 n c2)) tb E mo A2 c2/\∀ad,A2=some ad->base<=ad.block:=by
 obtain⟨h1,h2,h3,h4⟩:=hw_rs ho;have h5:∀ad,A2=some ad->ad.block≠tb:=λad e=>by have:=h2 ad e;omega
 rw[List.length_reverse]at h4;subst h4;have h6:=h0.put 0 (.slice A2 E.length c2);simp only[List.setIfInBounds_toArray,List.set_cons_zero,List.set_cons_succ]at h6;exact⟨⟨h6,(h1.setCell (p:=⟨tb,0,none⟩) h5 _).more (by simp[World.setCell]),h3,h5⟩,h2⟩
theorem run_cut_h (A:Option Addr) (n c k:Nat) (hk:k<=n) (hc:n<=c) (W:World):(Instr.slice 41 (.slice A n c) none (some (.int .i64 (k:Int))) none).run Tryz.prog W= .ok (.slice A k c) W:=by
 obtain⟨i,z,hi,hz,h1,_⟩:=elH.info;have e:∀a:Addr,a.add 0=a:=λa=>rfl;have hm:A.map (λx=>x.add 0)=A:=by cases A<;>rfl
 simp[Instr.slice,run_underlying elH.slice,Instr.sliceBounds,run_sliceBound,sizeOf,typeInfo,hi,h1,Result.andThen,show(k:Int)<=c by omega]
 exactλ_=>hm
theorem room_any (w:World) (tb:Nat) (E:List HdrV) (mo n:Nat) (h:RT w tb E mo) (hf:FewH E) (hn:n<=mo) (hD:mo<=1000000):
 Calls Tryz.prog 128 #[.pointer (some ⟨tb,0,none⟩),.int .i64 (n:Nat)] w λe w'=>e= .returned (.tuple #[])/\RT w' tb (Hk.shrink (mo-n) E) mo/\w.grownBy w' (some tb):=by
 have HR:=hid (show RmI w tb E mo (mo-n) E w from⟨h,rfl,hf,World.grownBy.refl w (some tb)⟩);have HN:=hid (And.intro hn hD);clear h hf hn hD;go_enter Tryz.func128,Tryz.ntmps128;go_wp2_with fail;go_loopw [4] (λ_ wr=>∃E1,Hid (RmI w tb E mo (mo-n) E1 wr)) (λ_ wr=>lenR wr tb)
 case atStart=>exact⟨E,HR⟩
 case round=>
  obtain⟨E1,hrel⟩:=hrel;have HT:=hid hrel.out.rt;have HS:=hid hrel.out.sh;have HF:=hid hrel.out.few;have HG:=hid hrel.out.gr;obtain⟨A,c,hk,hE,hF,hne⟩:=hrel.out.rt;have g0:wr.cell? ⟨tb,0,none⟩=some (.slice A E1.length c):=hk.cell 0;have g1:wr.cell? ⟨tb,1,none⟩=some (.int .i64 (mo:Nat)):=hk.cell 1;have hL:=hk.lt;have hM:=hid (lenR_of g0);have hG:=hid hE;have hd:=hid hk;have hN:=hid hF;clear hrel hE hne hk hF;by_cases h0:E1=[]
  · subst h0
    have HE:=hid (show Hk.shrink (mo-n) E=[]by rw[<-HS.out];rfl);have hc:=hid (show wr.drew.cell? ⟨tb,0,none⟩=some (.slice A 0 c)/\wr.drew.cell? ⟨tb,1,none⟩=some (.int .i64 (mo:Nat))from⟨g0,g1⟩);go_wp2_with fail;refine wp_region_noPanic ?_;refine wp_region_held_drew (S:=(λW'=>W'.cell? ⟨tb,0,none⟩=some (.slice A 0 c)/\W'.cell? ⟨tb,1,none⟩=some (.int .i64 (mo:Nat)))) (by kernel_rfl) hc.out (λhHeld=>?_);refine tk 0 ?_;refine tk 1 ?_;refine tk 2 ?_;refine tk 3 ?_;refine tk 4 ?_;refine tk 5 ?_ (v:=.bool false) (hy:=by intro w h6;(try dsimp only at h6);(try go_split_ands);go_simp;(first|done|with_reducible rfl|simp));refine tk 6 ?_;refine tk0 7 ?_;refine tk0 8 ?_;refine tk0 9 ?_;refine tk0 10 ?_;refine tk0 11 ?_;refine tk0 12 ?_;refine tk0 13 ?_;refine tk0 14 ?_;refine tk0 15 ?_;refine tk 16 ?_;refine wpAnyH_done (by kernel_rfl) ?_ _;refine NoPanic.normal ?_;go_wp2_with fail;go_end0;rw[HE.out];exact⟨rfl,HT.out,grown_drewN HG.out 1⟩
  · have hi:0<E1.length:=by
     cases E1 with
     |nil=>exact absurd rfl h0
     |cons x E2=>simp
    obtain⟨len,hl⟩:∃len,E1.length=len:=⟨_,rfl⟩;have ht:(0:Int)<(len:Int):=by omega
    have h9:=hid hl;have hu:=hid (λW (hb:Below wr.heap.size wr W)=>(show Calls Tryz.prog 163 #[.pointer (some ⟨tb,0,none⟩)] W λe w'=>e= .returned (.int .i64 (hszs E1:Nat))/\Below wr.heap.size wr w' from by
     have h1:=r3tsize_any W tb (.int .i64 (mo:Nat)) A c E1.reverse (by rw[List.length_reverse];exact hd.out.below hb hd.out.lt) (by rw[List.length_reverse];exact(hG.out.below hb).more hb.size) (by rw[List.length_reverse];have:=HF.out.len;omega) (λx hx=>by have:=HF.out.sz x (List.mem_reverse.1 hx);omega);refine h1.mono ?_;rintro e w' ⟨rfl,hO⟩;exact⟨by rw[show hszs E1.reverse=hszs E1 from Hk.hzs_rev E1],hb.trans (hO.mono hb.size)⟩))
    rw[hl]at g0;have HQ:=hid (λW (hb:Below wr.heap.size wr W)=>(show W.cell? ⟨tb,0,none⟩=some (.slice A len c)/\W.cell? ⟨tb,1,none⟩=some (.int .i64 (mo:Nat))from
     ⟨((hd.out.below hb hd.out.lt).cell 0).trans (by rw[<-hl];rfl),(hd.out.below hb hd.out.lt).cell 1⟩))
    have hc:=hid (HQ.out wr.drew (bdN (Below.refl _ _) 1));have hzs:=HF.out.hzs;have hw:=rm_wadd (hszs E1) n hzs (by have:=HN.out;omega);have h4:=hw.1;have h5:=hw.2;clear hw hl;obtain⟨sz,hsz⟩:∃sz,hszs E1=sz:=⟨_,rfl⟩;rw[hsz]at h4 h5 hu hzs;have HZ:=hid hsz;clear hsz;obtain⟨sn,hA⟩:∃sn,sz+n=sn:=⟨_,rfl⟩;rw[hA]at h4 h5;have hH:=hid hA;clear hA h0;by_cases hm:mo<sn
    · have ho:(mo:Int)<(sn:Int):=by omega
      have hI:=hid hm;have hP:=hid hi;have hj:=rm_wsub len (by have:=h9.out;omega) (by have:=HF.out.len;have:=h9.out;omega);clear hm hzs hi;go_wp2_with fail;refine wp_region_noPanic ?_;refine wp_region_held_drew (S:=(λW'=>W'.cell? ⟨tb,0,none⟩=some (.slice A len c)/\W'.cell? ⟨tb,1,none⟩=some (.int .i64 (mo:Nat)))) (by kernel_rfl) hc.out (λhHeld=>?_);refine tk 0 ?_;refine tk 1 ?_;refine tk 2 ?_;refine tk 3 ?_;refine tk 4 ?_;refine tk 5 ?_ (v:=.bool true) (hy:=by intro w h6;(try dsimp only at h6);(try go_split_ands);go_simp;(first|done|with_reducible rfl|omega|simp[ht]));refine tk 6 ?_;refine tk 7 ?_;refine tk 9 ?_;refine tk 11 ?_;refine tk 12 ?_;refine tk 13 ?_;refine tk 14 ?_;refine tkr 8 (λK hK=>?_);go_simp;go_at_call 163;with_reducible refine Calls.mono (hu.out _ ?_) ?_
      · first|exact Below.refl _ _|exact bdN (Below.refl _ _) 1
      rintro e w1 ⟨rfl,hh⟩;have he:=hid hh;have hq:=hid (HQ.out w1 hh);clear hh;refine hK.out _ _ hq.out (λhHeld2=>?_);clear hHeld;have hHeld:=hHeld2;clear hHeld2 hK K
      (try simp only[Act.put,List.setIfInBounds_toArray,List.set_cons_zero,List.set_cons_succ])
      refine tk 10 ?_ (v:=.int .i64 (sn:Nat)) (hy:=by intro w h6;(try dsimp only at h6);(try go_split_ands);go_simp;(first|done|with_reducible rfl|simp[h4,h5]|rw[h4]|(rw[h5])));refine tk 15 ?_ (v:=.bool true) (hy:=by intro w h6;(try dsimp only at h6);(try go_split_ands);go_simp;(first|done|with_reducible rfl|omega|simp[ho]));refine tk 16 ?_;refine wpAnyH_done (by kernel_rfl) ?_ _;refine NoPanic.normal ?_;have hC:=hid ((hG.out.below he.out).more he.out.size);have h7:=hid (hd.out.below he.out hd.out.lt);have hU:=hj.1;have hV:=hj.2;have hcut:=λW=>run_cut_h A len c (len-1) (by omega) (by have:=hN.out;have:=h9.out;omega) W;have hQ:=hid (λW (hb:Below w1.heap.size w1 W)=>H6.headers_any A (len-1) c E1.tail.reverse W (by have:=HF.out.len;have:=h9.out;omega) (by
       have h1:=rs_take (m:=len-1) ((hC.out.below hb).more hb.size) (by have:=h9.out;omega);have h2:E1.reverse.take (len-1)=E1.tail.reverse:=by rw[<-h9.out];exact Hk.rev_tail E1
       rw[h2]at h1;have h3:=h1.1;rw[<-h3]at h1 ⊢;exact rs_hr h1))
      have f0:=h7.out.frozen 0;have g0:w1.cell? ⟨tb,0,none⟩=some (.slice A len c):=hq.out.1;have hL:=h7.out.lt;clear hj h4 h5 ho;have hR:=hid (show E1.tail.length=len-1 by rw[List.length_tail,h9.out]);have hS:=hid (show len-1<len by have:=hP.out;have:=h9.out;omega);generalize len-1=l1 at*
      clear ht;go_wp2_with fail;go_region_with (first
       |(go_at_call 55
         with_reducible refine Calls.mono (hQ.out _ ?_) ?_
         · first|exact Below.refl _ _|exact bdN (Below.refl _ _) 1
         rintro e w2 ⟨v2,rfl,h2⟩;obtain⟨A2,c2,e2,_,_⟩:=h2.out.1.form;rw[List.length_reverse,hR.out]at e2;subst e2;have hT:=hid h2.out.1;have hJ:=hid (show Below w1.heap.size w1 w2 from⟨h2.out.2.os,h2.out.2.tape,h2.out.2.output,h2.out.2.size,h2.out.2.block⟩);have h8:=hid (h7.out.below hJ.out h7.out.lt);have k0:w2.cell? ⟨tb,0,none⟩=some (.slice A E1.length c):=h8.out.cell 0;have k1:=h8.out.frozen 0;have k2:=h8.out.lt;clear h2)
       |fail)
      all_goals
       go_wp2_with fail;go_roundw
       case rel=>
        refine⟨E1.tail,hid ⟨rt_store hT.out h8.out h7.out.lt,?_,HF.out.tail,?_⟩⟩
        · rw[<-HS.out]
          exact(Hk.shrink_go (by have:=HN.out;have:=hH.out;have:=hI.out;have e:Hk.hzs E1=sz:=HZ.out;omega)).symm
        · exact grown_setCell (HG.out.trans (grown_of_below (he.out.trans (hJ.out.mono he.out.size)) _)) 0 _
       case measure=>
        rw[hM.out];have h1:=lenR_of ((h8.out.put 0 (.slice A2 l1 c2)).cell 0);rw[h9.out];exact Nat.lt_of_le_of_lt (Nat.le_of_eq h1) hS.out
    · have ho:¬(mo:Int)<(sn:Int):=by omega
      have hI:=hid hm;have HE:=hid (show Hk.shrink (mo-n) E=E1 by
       rw[<-HS.out];exact Hk.shrink_stop (.inr (by have:=HN.out;have:=hH.out;have e:Hk.hzs E1=sz:=HZ.out;omega)))
      clear hm hzs hi;go_wp2_with fail;refine wp_region_noPanic ?_;refine wp_region_held_drew (S:=(λW'=>W'.cell? ⟨tb,0,none⟩=some (.slice A len c)/\W'.cell? ⟨tb,1,none⟩=some (.int .i64 (mo:Nat)))) (by kernel_rfl) hc.out (λhHeld=>?_);refine tk 0 ?_;refine tk 1 ?_;refine tk 2 ?_;refine tk 3 ?_;refine tk 4 ?_;refine tk 5 ?_ (v:=.bool true) (hy:=by intro w h6;(try dsimp only at h6);(try go_split_ands);go_simp;(first|done|with_reducible rfl|omega|simp[ht]));refine tk 6 ?_;refine tk 7 ?_;refine tk 9 ?_;refine tk 11 ?_;refine tk 12 ?_;refine tk 13 ?_;refine tk 14 ?_;refine tkr 8 (λK hK=>?_);go_simp;go_at_call 163;with_reducible refine Calls.mono (hu.out _ ?_) ?_
      · first|exact Below.refl _ _|exact bdN (Below.refl _ _) 1
      rintro e w1 ⟨rfl,hh⟩;have he:=hid hh;have hq:=hid (HQ.out w1 hh);clear hh;refine hK.out _ _ hq.out (λhHeld2=>?_);clear hHeld;have hHeld:=hHeld2;clear hHeld2 hK K
      (try simp only[Act.put,List.setIfInBounds_toArray,List.set_cons_zero,List.set_cons_succ])
      refine tk 10 ?_ (v:=.int .i64 (sn:Nat)) (hy:=by intro w h6;(try dsimp only at h6);(try go_split_ands);go_simp;(first|done|with_reducible rfl|simp[h4,h5]|rw[h4]|(rw[h5])));refine tk 15 ?_ (v:=.bool false) (hy:=by intro w h6;(try dsimp only at h6);(try go_split_ands);go_simp;(first|done|with_reducible rfl|omega|simp[ho]));refine tk 16 ?_;refine wpAnyH_done (by kernel_rfl) ?_ _;refine NoPanic.normal ?_;go_wp2_with fail;go_end0;rw[HE.out];exact⟨rfl,HT.out.below he.out,HG.out.trans (grown_of_below he.out _)⟩
end Go.Proofs.YtkpppjhbmnfmkaaGreatDoor
end

section
set_option maxHeartbeats 8000000
set_option maxRecDepth 100000
namespace Go.Proofs.YtkpppjhbmnfmkaaGreatDoor
open Lib (hid)
open Go.RowKit Go.Own Go.Own.Im Go.Own.Cx Go.Own.Fr Go.Own.Hd
attribute [local go_sem] Oper.semAt_some
theorem few_shrink {E:List HdrV} (h:FewH E) (m:Nat):FewH (Hk.shrink m E):=by
 refine⟨?_,λx hx=>h.sz x (Hk.shrink_sub m E x hx)⟩;have:∀E:List HdrV,(Hk.shrink m E).length<=E.length:=by
  intro E
  induction E with
  |nil=>simp[Hk.shrink]
  |cons x E ih=>
   unfold Hk.shrink
   split
   · simp only[List.length_cons];omega
   · exact Nat.le_refl _
 exact Nat.le_trans (this E) h.len
theorem rev_app (E:List HdrV) (x:HdrV):(E++[x]).reverse=[x]++E.reverse:=by simp
theorem radd_any (w:World) (tb:Nat) (E:List HdrV) (mo:Nat) (hn hv:ByteArray) (ne:Bool) (h:RT w tb E mo) (hf:FewH E) (hd:mo<=1000000) (s:Nat) (hs:hn.size+hv.size+32=s) (hz:s<=mo) (E2:List HdrV) (hE:Hk.shrink (mo-s) E=E2):
 Calls Tryz.prog 84 #[.pointer (some ⟨tb,0,none⟩),.agg #[.string hn,.string hv,.bool ne]] w λe w'=>e= .returned (.tuple #[])/\(∃A c,RTa w' tb (E2++[⟨hn,hv,false⟩]) mo A c/\∀ad,A=some ad->w.heap.size<=ad.block)/\w.grownBy w' (some tb):=by
 have HX:=hid (Blk.new w 63 #[.string hn,.string hv,.bool ne]);have HB:=hid ((Below.refl w.heap.size w).alloc (Nat.le_refl _) (.cells #[.string hn,.string hv,.bool ne] 63));have ht:=hid (h.below HB.out);have he:=hid (λW=>r3size_any hn hv ne W (by omega) (by omega));rw[show hsz ⟨hn,hv,ne⟩=s from hs]at he;clear hs;have hu:=hid h.lt;have HF:=hid hf;have HH:=hid (And.intro hd hz);have HE:=hid hE;clear h hf hd hz hE;go_enter Tryz.func84,Tryz.ntmps84;go_upto_region 1 with fail;generalize w.alloc (.cells #[.string hn,.string hv,.bool ne] 63)=W0 at*
 have x0:=HX.out.cell 0;have x1:=HX.out.cell 1;have x2:=HX.out.cell 2;simp only[List.getElem?_toArray,List.getElem?_cons_zero,List.getElem?_cons_succ]at x0 x1 x2;go_wp2_with fail;refine(he.out _).mono ?_;rintro e w1 ⟨rfl,h4⟩;have hw:=hid (HB.out.trans (h4.mono HB.out.size));have hA:=hid (ht.out.below h4);have hC:=hid (HX.out.below h4 HX.out.lt);clear h4 x0 x1 x2;go_wp2_with fail;refine(room_any w1 tb E mo s hA.out HF.out HH.out.2 HH.out.1).mono ?_;rintro e w2 ⟨rfl,h5,h6⟩;have hD:=hid h5;have hh:=hid ((grown_of_below hw.out (some tb)).trans h6);have hb:w.heap.size≠tb:=by have:=hu.out;omega
 have h7:=hid (hC.out.grown h6 (λe=>by injection e with e;exact hb e));have hi:=hid (few_shrink HF.out (mo-s));rw[HE.out]at hi hD h5;clear h6;obtain⟨A,c,h2,hj,hF,hG⟩:=h5;have h8:=hid h2;have hH:=hid hj;have g0:w2.cell? ⟨tb,0,none⟩=some (.slice A E2.length c):=h2.cell 0;have g1:w2.cell? ⟨tb,1,none⟩=some (.int .i64 (mo:Nat)):=h2.cell 1;have hM:=h2.lt;have hN:(s:Int)<=(mo:Int):=by have:=HH.out.2;omega
 clear h2 hj hF hG;have x0:=h7.out.cell 0;have x1:=h7.out.cell 1;have x2:=h7.out.cell 2;simp only[List.getElem?_toArray,List.getElem?_cons_zero,List.getElem?_cons_succ]at x0 x1 x2;have hI:Hid (Cm.Ew hdrC 63 3 (w2.drew.alloc (.cells #[.string hn,.string hv,.bool false] 63)) w2.heap.size (.slice (some ⟨w2.heap.size,0,none⟩) 1 1) [⟨hn,hv,false⟩]):=hid (Cm.Ew.lit (k:=3) hdrC 63 (λ_=>rfl) w2.drew [⟨hn,hv,false⟩] (by simp));have hk:Hid (Cm.RS hdrC 3 (w2.drew.alloc (.cells #[.string hn,.string hv,.bool false] 63)) w2.heap.size A E2.length E2.reverse):=hid (hH.out.below ((Below.refl _ _).drew.alloc (Nat.le_refl _) _));have h9:Hid (Below w2.heap.size w2 (w2.drew.alloc (.cells #[.string hn,.string hv,.bool false] 63))):=hid ((Below.refl _ _).drew.alloc (Nat.le_refl _) _);have hl:=hid hi.out.len;obtain⟨n2,hm⟩:∃n2,E2.length=n2:=⟨_,rfl⟩;rw[hm]at hk hl g0;clear hm;go_wp2_with fail;go_region_law
  ((refine Cm.step_app_e elH _ (by rfl) (.tmp 22) (.tmp 26) (by rfl) w2.heap.size (.slice (some ⟨w2.heap.size,0,none⟩) 1 1) [⟨hn,hv,false⟩] (by rfl) hI.out w2.heap.size A n2 c E2.reverse (by rfl) hk.out (by have:=hl.out;show 1+n2<=1000000;omega) h9.out.size ?_
    intro A4 c4 w4 h3 hg hJ;have hK:=hid h3;have hq:=hid (h9.out.grown hg h9.out.size (λg e=>by have e:some w2.heap.size=some g:=e;injection e with e;omega));have h1:=h8.out.below hq.out h8.out.lt;have hc:=hid h1;have k0:w4.cell? ⟨tb,0,none⟩=some (.slice A E2.length c):=h1.cell 0;have k1:=h1.frozen 0;have k2:=h1.lt;clear h3 hg hJ h1))
 all_goals
  go_end0;have ho:=hK.out;rw[<-rev_app]at ho;have hL:H6.Hw w4 w2.heap.size (.slice A4 (1+n2) c4) (E2++[(⟨hn,hv,false⟩:HdrV)]).reverse:=by
   have h0:w4.ownsRow w2.heap.size 63 3 (.slice A4 (1+n2) c4) (E2++[(⟨hn,hv,false⟩:HdrV)]).reverse.length (Cm.flat hdrC (E2++[(⟨hn,hv,false⟩:HdrV)]).reverse):=ho;rw[<-hcells_flat]at h0;exact h0
  obtain⟨q1,q2⟩:=rt_store2 hL hc.out h8.out.lt;exact⟨rfl,⟨_,_,q1,λad e=>Nat.le_trans hh.out.size (q2 ad e)⟩,grown_setCell (hh.out.trans (grown_of_below hq.out _)) 0 _⟩
end Go.Proofs.YtkpppjhbmnfmkaaGreatDoor
end

section
set_option maxHeartbeats 8000000
set_option maxRecDepth 100000
namespace Go.Proofs.YtkpppjhbmnfmkaaGreatDoor
open Lib (hid)
open Go.RowKit Go.Own Go.Own.Im Go.Own.Cx Go.Own.Fr Go.Own.Hd
attribute [local go_sem] Oper.semAt_some
theorem txt_at {cs:Array Value} {l:List (List UInt8)} (h:TxtS cs l) {i:Nat} {t:List UInt8} (hi:l[i]?=some t):cs[i]?=some (.string ⟨t.toArray⟩):=by
 rw[show cs=_ from h,List.getElem?_toArray,List.getElem?_map,hi];rfl
theorem bne_list {a b:ByteArray} (h:¬a=b):(a.toList==b.toList)=false:=by
 rw[beq_eq_false_iff_ne];intro e;rw[Lib.toList_data,Lib.toList_data]at e;apply h;cases a;cases b
 congr 1
 exact Array.toList_inj.1 e
def FnI (hn hv:ByteArray) (t:Hk.TM) (t10 t11:Value):Prop:=∃j k:Nat,j<=61/\k<=100000/\t10= .int .i64 (k:Nat)/\t11= .int .i64 ((j+1:Nat):Int)/\Hid (Hk.FindI hn hv t.all j k)
def FnJ (hn hv:ByteArray) (t:Hk.TM) (t10 t12:Value):Prop:=∃j k:Nat,j<=t.E.length/\k<=100000/\t10= .int .i64 (k:Nat)/\t12= .int .i64 (j:Nat)/\Hid (Hk.FindI hn hv t.all (61+j) k)
theorem fw1 (j:Nat) (h:j<=100000):wrap64 ((j:Int)+1)=((j+1:Nat):Int):=by unfold wrap64;omega
theorem fw2 (j:Nat) (h:j<=100000):wrap64 (62+(j:Int))=((62+j:Nat):Int):=by unfold wrap64;omega
theorem rfind_any (w:World) (tb:Nat) (E:List HdrV) (mo:Nat) (hn hv:ByteArray) (h:RT w tb E mo) (hf:FewH E) (r:Nat×Bool) (hr:Hk.TM.find ⟨E,mo⟩ hn hv=r):
 Calls Tryz.prog 83 #[.pointer (some ⟨tb,0,none⟩),.string hn,.string hv] w λe w'=>e= .returned (.tuple #[.int .i64 (r.1:Nat),.bool r.2])/\Below w.heap.size w w':=by
 have HT:=hid h;have HF:=hid hf;have HR:=hid (show Hk.findGo hn hv (Hk.TM.all ⟨E,mo⟩) 1 0=r from hr);clear h hf hr;go_enter Tryz.func83,Tryz.ntmps83;go_wp2_with fail;refine(names_any w).mono ?_;rintro e w1 ⟨cs,rfl,hC,hD⟩;have HN:=hid hD;have hE:=hid (Blk.new w 9 cs);have he:=hid ((Below.refl w.heap.size w).alloc (Nat.le_refl _) (.cells cs 9));have hF:=hid (show w.heap.size<(w.alloc (.cells cs 9)).heap.size by simp);rw[<-hC]at hE he hF;clear hD hC;go_wp2_with fail;refine(values_any w1).mono ?_;rintro e w2 ⟨vs,rfl,hG,hI⟩;have HV:=hid hI;have hb:=(Below.refl w1.heap.size w1).alloc (Nat.le_refl _) (.cells vs 9);have hJ:=hid (Blk.new w1 9 vs);rw[<-hG]at hJ hb;have hO:=hid (hE.out.below hb hF.out);have hc:=hid (he.out.trans (hb.mono he.out.size));have hP:=hid (HT.out.below hc.out);clear hI hG hb;go_upto_region 5 with fail;go_loop [10,11] (λt10 t11=>FnI hn hv ⟨E,mo⟩ t10 t11) (λ_ t11=>62-(intOf t11).toNat)
 case atStart=>exact⟨0,0,by omega,by omega,rfl,rfl,hid (Hk.FindI.start hn hv _)⟩
 case round=>
  obtain⟨j,k,hj,hk,rfl,rfl,hh⟩:=hrel;by_cases h3:j<61
  · have hl:Hk.statL.length=61:=by kernel_rfl
    obtain⟨p,hp⟩:∃p,Hk.statL[j]?=some p:=⟨_,List.getElem?_eq_getElem (by rw[hl];exact h3)⟩;have h1:=Hk.all_stat ⟨E,mo⟩ h3;rw[hp]at h1;have n1:namL[j+1]?=some p.1:=by rw[namL,List.getElem?_cons_succ,List.getElem?_map,hp];rfl
    have v1:valL[j+1]?=some p.2:=by rw[valL,List.getElem?_cons_succ,List.getElem?_map,hp];rfl
    have c1:w2.cell? ⟨w.heap.size,j+1,none⟩=some (.string ⟨p.1.toArray⟩):=(hO.out.cell (j+1)).trans (txt_at HN.out n1);have c2:w2.cell? ⟨w1.heap.size,j+1,none⟩=some (.string ⟨p.2.toArray⟩):=(hJ.out.cell (j+1)).trans (txt_at HV.out v1);have h1:(Hk.TM.all ⟨E,mo⟩)[j]?=some ⟨⟨p.1.toArray⟩,⟨p.2.toArray⟩,false⟩:=h1;have h8:((j+1:Nat):Int)<62:=by omega
    have hQ:(0:Int)<=((j+1:Nat):Int):=by omega
    have h0:=hid (show j+1<=61/\j+1<=100000/\62-(j+1+1)<62-(j+1)from⟨by omega,by omega,by omega⟩);have ej:=fw1 (j+1) (by omega);generalize (⟨p.1.toArray⟩:ByteArray)=nm at*
    generalize (⟨p.2.toArray⟩:ByteArray)=vl at*
    have HA:=hid h1;obtain⟨j1,hd⟩:∃j1,j+1=j1:=⟨_,rfl⟩;have HJ:=hid hd;rw[hd]at c1 c2 h8 hQ ej;rw[hd];clear hl hp h1 n1 v1 hj h3 hd;by_cases hne:nm=hn
    · subst hne
      by_cases h4:vl=hv
      · subst h4
        have HE:=hid (HR.out.symm.trans (hh.out.hit HA.out rfl rfl));clear hh hk;go_wp2_with fail;go_ret2;exact⟨by rw[HE.out,HJ.out];rfl,hc.out⟩
      · have hw:=bne_list h4
        have HE:=hid (hh.out.name HA.out rfl h4);by_cases h2:k=0
        · have h6:(k:Int)=0:=by omega
          have h5:=hid (HE.out.same0 h2);clear hh hk h2;go_wp2_with fail;exact⟨⟨j+1,j1,h0.out.1,by have:=h0.out.2.1;have:=HJ.out;omega,rfl,by have h9:=HJ.out;clear ej;first|(congr 1;omega)|rfl,hid (by rw[<-HJ.out];exact h5.out)⟩,by have h9:=HJ.out;have hK:=h0.out.2.2;simp only[intOf];clear ej;omega⟩
        · have h6:¬(k:Int)=0:=by omega
          have h5:=hid (HE.out.same1 h2);have HK:=hid hk;clear hh hk h2;go_wp2_with fail;exact⟨⟨j+1,k,h0.out.1,HK.out,rfl,by have h9:=HJ.out;clear ej;first|(congr 1;omega)|rfl,h5⟩,by have h9:=HJ.out;have hK:=h0.out.2.2;simp only[intOf];clear ej;omega⟩
    · have hA:=bne_list hne
      have HE:=hid (hh.out.not HA.out hne);have HK:=hid hk;clear hh hk;go_wp2_with fail;exact⟨⟨j+1,k,h0.out.1,HK.out,rfl,by have h9:=HJ.out;clear ej;first|(congr 1;omega)|rfl,HE⟩,by have h9:=HJ.out;have hK:=h0.out.2.2;simp only[intOf];clear ej;omega⟩
  · obtain rfl:j=61:=by omega
    have h8:¬(((61+1:Nat):Int)<62):=by omega
    have HK:=hid hk;have HH:=hid hh.out;clear hh hk h3 hj;go_wp2_with fail;go_loop [10,12] (λt10 t12=>FnJ hn hv ⟨E,mo⟩ t10 t12) (λ_ t12=>E.length-(intOf t12).toNat)
    case atStart=>exact⟨0,k,Nat.zero_le _,HK.out,rfl,rfl,hid HH.out⟩
    case round=>
     obtain⟨j,k2,hj,hk,rfl,rfl,hh⟩:=hrel;obtain⟨A,c,hi,hm,hL,hM⟩:=hP.out;have g0:w2.cell? ⟨tb,0,none⟩=some (.slice A E.length c):=hi.cell 0;by_cases h3:j<E.length
     · have hH:=rs_hr (hs:=E.reverse) (by rw[List.length_reverse];exact hm)
       have ho:j<E.reverse.length:=by rw[List.length_reverse];exact h3
       obtain⟨ad,rfl,a0,a1,a2⟩:=hH.at_ (k:=j) ho;obtain⟨x,hx⟩:∃x,E.reverse[j]?=some x:=⟨_,List.getElem?_eq_getElem ho⟩;have hN:E.reverse.getD j ⟨⟨#[]⟩,⟨#[]⟩,false⟩=x:=by rw[List.getD,hx];rfl
       rw[hN]at a0 a1 a2;have HA:=hid (show(Hk.TM.all ⟨E,mo⟩)[61+j]?=some x from(Hk.all_at ⟨E,mo⟩ j).trans hx);have hR:(j:Int)<(E.length:Int):=by omega
       have i0:(0:Int)<=(j:Int):=by omega
       have hS:=HF.out.len;have ej:=fw1 j (by omega);have e62:=fw2 j (by omega);have h0:=hid (show j+1<=E.length/\62+j<=100000/\E.length-(j+1)<E.length-j from⟨by omega,by omega,by omega⟩);obtain⟨nm,vl,nv⟩:=x;simp only at a0 a1 a2;obtain⟨q,hq⟩:∃q,62+j=q:=⟨_,rfl⟩;have HQ:=hid hq;rw[hq]at e62;obtain⟨q1,ht⟩:∃q1,j+1=q1:=⟨_,rfl⟩;have h7:=hid ht;rw[ht]at ej;clear hi hm hL hM hH ho hx hN hj h3 hS hq ht a2;by_cases hne:nm=hn
       · subst hne
         by_cases h4:vl=hv
         · subst h4
           have HE:=hid (HR.out.symm.trans (hh.out.hit HA.out rfl rfl));clear hh hk;go_wp2_with fail;go_ret2;exact⟨by rw[HE.out,<-HQ.out,show 61+j+1=62+j by omega];rfl,hc.out⟩
         · have hw:=bne_list h4
           have HE:=hid (hh.out.name HA.out rfl h4);by_cases h2:k2=0
           · have h6:(k2:Int)=0:=by omega
             have h5:=hid (HE.out.same0 h2);clear hh hk h2;go_wp2_with fail;exact⟨⟨j+1,q,h0.out.1,by rw[<-HQ.out];exact h0.out.2.1,by first|rfl|rw[e62],by rw[ej,h7.out],hid (by rw[show 61+(j+1)=61+j+1 by omega];rw[<-HQ.out,show 62+j=61+j+1 by omega];exact h5.out)⟩,by rw[ej,<-h7.out];exact h0.out.2.2⟩
           · have h6:¬(k2:Int)=0:=by omega
             have h5:=hid (HE.out.same1 h2);have hu:=hid hk;clear hh hk h2;go_wp2_with fail;exact⟨⟨j+1,k2,h0.out.1,hu.out,by first|rfl|rw[e62],by rw[ej,h7.out],hid (by rw[show 61+(j+1)=61+j+1 by omega];exact h5.out)⟩,by rw[ej,<-h7.out];exact h0.out.2.2⟩
       · have hA:=bne_list hne
         have HE:=hid (hh.out.not HA.out hne);have hu:=hid hk;clear hh hk;go_wp2_with fail;exact⟨⟨j+1,k2,h0.out.1,hu.out,by first|rfl|rw[e62],by rw[ej,h7.out],hid (by rw[show 61+(j+1)=61+j+1 by omega];exact HE.out)⟩,by rw[ej,<-h7.out];exact h0.out.2.2⟩
     · have hR:¬(j:Int)<(E.length:Int):=by omega
       have HE:=hid (HR.out.symm.trans (hh.out.done (by rw[Hk.all_len'];show 61+E.length<=61+j;omega)));clear hi hm hL hM hh;go_wp2_with fail;go_ret2;exact⟨by rw[HE.out];rfl,hc.out⟩
end Go.Proofs.YtkpppjhbmnfmkaaGreatDoor
end

section
set_option maxHeartbeats 4000000
set_option maxRecDepth 100000
namespace Go.Own.Hd
open Lib (hid)
theorem takeWhile_len {l:List HdrV} {p:HdrV->Bool} {i:Nat} (h:(l.take i).all p=true) (hi:i<=l.length) (he:i=l.length\/∃x,l[i]?=some x/\p x=false):(l.takeWhile p).length=i:=by
 induction l generalizing i with
 |nil=>simp at hi;subst hi;rfl
 |cons a l ih=>
  cases i with
  |zero=>
   rcases he with he|⟨x,hx,hp⟩
   · simp at he
   · injection hx with hx
     subst hx;rw[List.takeWhile_cons,if_neg (by simp[hp])]
     rfl
  |succ i=>
   simp only[List.take_succ_cons,List.all_cons,Bool.and_eq_true]at h;rw[List.takeWhile_cons,if_pos h.1,List.length_cons,ih h.2 (by simpa using hi) (by
    rcases he with he|⟨x,hx,hp⟩
    · left;simpa using he
    · right;exact⟨x,by simpa using hx,hp⟩)]
theorem takeWhile_take (l:List HdrV) (p:HdrV->Bool):l.takeWhile p=l.take (l.takeWhile p).length:=by
 induction l with
 |nil=>rfl
 |cons a l ih=>
  rw[List.takeWhile_cons]
  split
  · rw[List.length_cons,List.take_succ_cons,<-ih]
  · rfl
theorem dropWhile_drop (l:List HdrV) (p:HdrV->Bool):l.dropWhile p=l.drop (l.takeWhile p).length:=by
 induction l with
 |nil=>rfl
 |cons a l ih=>
  rw[List.takeWhile_cons,List.dropWhile_cons]
  split
  · rw[List.length_cons,List.drop_succ_cons,<-ih]
  · rfl
theorem vals_snoc (l:List HdrV) (x:HdrV) (n:List UInt8):valsN (l++[x]) n=if tx x.name=n then valsN l n++[x.value]else valsN l n:=by
 unfold valsN;rw[List.filter_append,List.map_append];by_cases h:tx x.name=n
 · rw[if_pos h];simp[h]
 · rw[if_neg h];simp[h]
theorem vals_len (l:List HdrV) (n:List UInt8):(valsN l n).length=cntN l n:=by simp[valsN,cntN]
end Go.Own.Hd
namespace Go.Proofs.YtkpppjhbmnfmkaaGreatDoor
open Lib (hid)
open Go.RowKit Go.Own Go.Own.Im Go.Own.Cx Go.Own.Fr Go.Own.Hd
attribute [local go_sem] Oper.semAt_some
def trC (b:Bool):Int:=if b then 0 else 112
abbrev hr0:HdrV:=⟨⟨#[]⟩,⟨#[]⟩,false⟩
theorem hr_take {w:World} {A:Option Addr} {n k:Nat} {l:List HdrV} (h:H6.Hr w A n l) (hk:k<=n):H6.Hr w A k (l.take k):=by
 refine⟨by rw[List.length_take,h.1];omega,λj u hu=>h.2 j u ?_⟩;have e:H6.hcells l=H6.hcells (l.take k)++H6.hcells (l.drop k):=by rw[<-H6.hcells_append,List.take_append_drop]
 rw[e,List.getElem?_append_left (List.getElem?_eq_some_iff.1 hu).1];exact hu
theorem hget {l:List HdrV} {i:Nat} (h:i<l.length):∃x,l[i]?=some x/\l.getD i hr0=x:=⟨l[i],List.getElem?_eq_getElem h,by rw[List.getD,List.getElem?_eq_getElem h];rfl⟩
theorem szs_at {l:List HdrV} (h:H6.Szs l) {i:Nat} {x:HdrV} (hx:l[i]?=some x):x.name.size<=1000000000/\x.value.size<=1000000000:=h x (List.mem_of_getElem? hx)
theorem all_oneH {l:List HdrV} {i:Nat} {x:HdrV} {p:HdrV->Bool} (h:(l.take i).all p=true) (hx:l[i]?=some x) (hp:p x=true):(l.take (i+1)).all p=true:=by
 obtain⟨hl,e⟩:=List.getElem?_eq_some_iff.1 hx;rw[List.take_succ_eq_append_getElem hl,e,List.all_append,h];simp[hp]
theorem all_badH {l:List HdrV} {i:Nat} {x:HdrV} {p:HdrV->Bool} (hx:l[i]?=some x) (hp:p x=false):l.all p=false:=by
 rw[List.all_eq_false];exact⟨x,List.mem_of_getElem? hx,by simp[hp]⟩
theorem rtrailers_any (A:Option Addr) (n c:Nat) (l:List HdrV) (w:World) (hr:H6.Hr w A n l) (hz:H6.Szs l) (hn:n<=100000):
 Calls Tryz.prog 54 #[.slice A n c] w λe w'=>e= .returned (.int .i64 (trC (l.all plainB)))/\Below w.heap.size w w':=by
 have HR:=hid hr;have HZ:=hid hz;have HN:=hid (And.intro hr.1 hn);clear hr hz hn;go_enter Tryz.func54,Tryz.ntmps54;go_upto_region 2 with fail;go_loopw [3] (λt wr=>∃i:Nat,i<=n/\t= .int .i64 (i:Nat)/\Hid ((l.take i).all plainB=true/\Below w.heap.size w wr)) (λt _=>n-(intOf t).toNat)
 case atStart=>exact⟨0,Nat.zero_le _,rfl,hid ⟨rfl,Below.refl _ _⟩⟩
 case round=>
  obtain⟨i,hi,rfl,hh⟩:=hrel;by_cases h2:i<n
  · have hb:(i:Int)<(n:Int):=by omega
    have i0:(0:Int)<=(i:Int):=by omega
    obtain⟨x,hx,h6⟩:=hget (l:=l) (i:=i) (by rw[HN.out.1];exact h2);obtain⟨ad,rfl,a0,a1,a2⟩:=(HR.out.below hh.out.2).at_ h2;rw[h6]at a0 a1 a2;have hs:=szs_at HZ.out hx;have h3:=hid (λW=>rplain_any x.name x.value x.never W hs.1 hs.2);have HX:=hid hx;have h7:i<=1000000000000:=by have:=HN.out;omega
    have h8:=hid (show i+1<=n/\n-(i+1)<n-i from⟨by omega,by omega⟩);have ej:=zs4 i h7;clear hi h2 hx h6 hs h7;obtain⟨xn,xv,xb⟩:=x;simp only at a0 a1 a2 h3;obtain⟨pb,h4⟩:∃pb,plainB ⟨xn,xv,xb⟩=pb:=⟨_,rfl⟩;have h9:=hid h4;rw[h4]at h3;clear h4;cases pb with
    |true=>
     have HT:=hid (all_oneH hh.out.1 HX.out h9.out);go_wp2_with (first
      |(go_at_call 87
        with_reducible refine Calls.mono (h3.out _) ?_
        rintro e w2 ⟨rfl,h1⟩;have h5:=hid (hh.out.2.trans (h1.mono hh.out.2.size));clear h1)
      |fail)
     exact⟨⟨i+1,h8.out.1,by rw[ej],hid ⟨HT.out,h5.out⟩⟩,by rw[ej];exact h8.out.2⟩
    |false=>
     have HT:=hid (all_badH HX.out h9.out);go_wp2_with (first
      |(go_at_call 87
        with_reducible refine Calls.mono (h3.out _) ?_
        rintro e w2 ⟨rfl,h1⟩;have h5:=hid (hh.out.2.trans (h1.mono hh.out.2.size));clear h1)
      |fail)
     refine bodyPost_ret (v:=.int .i64 112) (by simp[results,Tryz.results54,go_sem]) rfl ⟨?_,h5.out⟩;rw[HT.out];rfl
  · obtain rfl:i=n:=by omega
    have hb:¬(i:Int)<(i:Int):=by omega
    have h0:=hh.out.1;rw[<-HN.out.1,List.take_length]at h0;have HA:=hid h0;have HB:=hid hh.out.2;clear hh hi h2 h0;go_wp2_with fail;go_ret;exact⟨by rw[HA.out];rfl,HB.out⟩
theorem rfront_any (A:Option Addr) (n c:Nat) (l:List HdrV) (w:World) (hr:H6.Hr w A n l) (hn:n<=100000):
 Calls Tryz.prog 50 #[.slice A n c] w λe w'=>e= .returned (.int .i64 ((l.takeWhile colonB).length:Nat))/\Below w.heap.size w w':=by
 have HR:=hid hr;have HN:=hid (And.intro hr.1 hn);clear hr hn;go_enter Tryz.func50,Tryz.ntmps50;go_upto_region 2 with fail;go_loopw [3] (λt wr=>∃i:Nat,i<=n/\t= .int .i64 (i:Nat)/\Hid ((l.take i).all colonB=true/\Below w.heap.size w wr)) (λt _=>n-(intOf t).toNat)
 case atStart=>exact⟨0,Nat.zero_le _,rfl,hid ⟨rfl,Below.refl _ _⟩⟩
 case round=>
  obtain⟨i,hi,rfl,hh⟩:=hrel;by_cases h1:i<n
  · have h9:(i:Int)<(n:Int):=by omega
    have i0:(0:Int)<=(i:Int):=by omega
    obtain⟨x,hx,h5⟩:=hget (l:=l) (i:=i) (by rw[HN.out.1];exact h1);obtain⟨ad,rfl,a0,a1,a2⟩:=(HR.out.below hh.out.2).at_ h1;rw[h5]at a0 a1 a2;have HX:=hid hx;have hb:=hid (show i<=l.length by rw[HN.out.1];omega);have h6:i<=1000000000000:=by have:=HN.out;omega
    have h7:=hid (show i+1<=n/\n-(i+1)<n-i from⟨by omega,by omega⟩);have ej:=zs4 i h6;clear hi h1 hx h5 h6;obtain⟨xn,xv,xb⟩:=x;simp only at a0 a1 a2;have h2:=hid (λW=>colon6_any xn xv xb W);obtain⟨pb,h3⟩:∃pb,colonB ⟨xn,xv,xb⟩=pb:=⟨_,rfl⟩;have h8:=hid h3;rw[h3]at h2;clear h3;cases pb with
    |true=>
     have HT:=hid (all_oneH hh.out.1 HX.out h8.out);go_wp2_with (first
      |(go_at_call 86
        with_reducible refine Calls.mono (h2.out _) ?_
        rintro e w2 ⟨rfl,h0⟩;have h4:=hid (hh.out.2.trans (h0.mono hh.out.2.size));clear h0)
      |fail)
     exact⟨⟨i+1,h7.out.1,by rw[ej],hid ⟨HT.out,h4.out⟩⟩,by rw[ej];exact h7.out.2⟩
    |false=>
     have HT:=hid (takeWhile_len hh.out.1 hb.out (.inr ⟨_,HX.out,h8.out⟩));go_wp2_with (first
      |(go_at_call 86
        with_reducible refine Calls.mono (h2.out _) ?_
        rintro e w2 ⟨rfl,h0⟩;have h4:=hid (hh.out.2.trans (h0.mono hh.out.2.size));clear h0)
      |fail)
     go_ret;exact⟨by rw[HT.out];rfl,h4.out⟩
  · obtain rfl:i=n:=by omega
    have h9:¬(i:Int)<(i:Int):=by omega
    have HT:=hid (takeWhile_len hh.out.1 (by rw[HN.out.1];omega) (.inl HN.out.1.symm));have HB:=hid hh.out.2;clear hh hi h1;go_wp2_with fail;go_ret;exact⟨by rw[HT.out];rfl,HB.out⟩
def strC (s:ByteArray):Array Value:=#[.string s]
theorem elStr:Cm.ElP Tryz.prog strC 109 9 1 16:=by
 refine⟨Tryz.underlying109,?_,λ_=>rfl,?_,by omega,by omega⟩
 · obtain⟨i,hi,hz,h1,h2⟩:=info_parts (show(Tryz.prog.info? 9).map (λi=>(i.zero,i.size,i.bytes))=some (some (.string ⟨#[]⟩),1,16)by kernel_rfl)
   exact⟨i,_,hi,hz,h1,h2,rfl⟩
 · intro x u hu
   simp only[strC,List.mem_cons,List.not_mem_nil,or_false]at hu;subst hu;rfl
theorem tx_eq {a b:ByteArray} (h:tx a=tx b):a=b:=by
 cases a;cases b
 congr 1
 exact Array.toList_inj.1 h
def AllP (w:World) (vs:List ByteArray) (e:Ending) (w':World):Prop:=∃A c,e= .returned (.slice A vs.length c)/\Cm.Ew strC 9 1 w' w.heap.size (.slice A vs.length c) vs/\Below w.heap.size w w'
theorem rall_any (A:Option Addr) (n c:Nat) (l:List HdrV) (nm:ByteArray) (w:World) (hr:H6.Hr w A n l) (hn:n<=100000) (vs:List ByteArray) (hv:valsN l (tx nm)=vs):
 Calls Tryz.prog 51 #[.slice A n c,.string nm] w (AllP w vs):=by
 have HR:=hid hr;have HN:=hid (And.intro hr.1 hn);have HV:=hid hv;clear hr hn hv;go_enter Tryz.func51,Tryz.ntmps51;go_upto_region 3 with fail;go_loopw [5,6] (λv t wr=>∃i:Nat,i<=n/\t= .int .i64 (i:Nat)/\Hid (Cm.Ew strC 9 1 wr w.heap.size v (valsN (l.take i) (tx nm))/\Below w.heap.size w wr)) (λ_ t _=>n-(intOf t).toNat)
 case atStart=>exact⟨0,Nat.zero_le _,rfl,hid ⟨Cm.Ew.nil _ _ _ _ _,Below.refl _ _⟩⟩
 case round=>
  obtain⟨i,hi,rfl,hh⟩:=hrel;obtain⟨A1,c1,e1,_,_⟩:=hh.out.1.form;by_cases h2:i<n
  · have hf:(i:Int)<(n:Int):=by omega
    have i0:(0:Int)<=(i:Int):=by omega
    have h3:i<l.length:=by rw[HN.out.1];exact h2
    obtain⟨x,hx,h5⟩:=hget h3;obtain⟨ad,rfl,a0,a1,a2⟩:=(HR.out.below hh.out.2).at_ h2;rw[h5]at a0 a1 a2;have h0:=vals_snoc (l.take i) x (tx nm);have h1:l.take (i+1)=l.take i++[x]:=by rw[List.take_succ_eq_append_getElem h3,(List.getElem?_eq_some_iff.1 hx).2]
    rw[<-h1]at h0;have h8:=vals_len (l.take i) (tx nm);have h9:cntN (l.take i) (tx nm)<=i:=by
     unfold cntN;exact Nat.le_trans (List.length_filter_le _ _) (by rw[List.length_take];omega)
    have hj:=hid (show(valsN (l.take i) (tx nm)).length+1<=1000000 by have:=HN.out;omega);have h6:i<=1000000000000:=by have:=HN.out;omega
    have h4:=hid (show i+1<=n/\n-(i+1)<n-i from⟨by omega,by omega⟩);have ej:=zs4 i h6;obtain⟨xn,xv,xb⟩:=x;simp only at a0 a1 a2 h0;generalize hb:valsN (l.take i) (tx nm)=vi at*
    subst e1;by_cases he:xn=nm
    · subst he
      rw[if_pos rfl]at h0;have HS:=hid h0;have h7:=hid (hh.out.2.alloc hh.out.2.size (.cells #[.string xv] 9));have HO:=hid (hh.out.1.below ((Below.refl wr.heap.size wr).alloc (Nat.le_refl _) (.cells #[.string xv] 9)));have hk:=hid ((Cm.Ew.lit (k:=1) strC 9 (λ_=>rfl) wr [xv] (by simp)).rs (λ_=>rfl) (by omega));clear hi h2 h3 hx h5 h0 h1 h8 h9 h6 hb a2;go_wp2_with (first
       |(at_builtin
         refine Cm.wpList_app_e elStr _ rfl (.tmp 20) (.tmp 26) rfl w.heap.size (.slice A1 vi.length c1) vi rfl HO.out _ (some ⟨wr.heap.size,0,none⟩) 1 1 [xv] rfl hk.out hj.out h7.out.size ?_;intro A3 c3 w3 hc hd hl;have hm:=hid hc;have ho:=hid (h7.out.grown hd h7.out.size (λg hg=>(HO.out.lt g hg).1));clear hc hd hl)
       |fail)
      go_roundw
      case rel=>exact⟨i+1,h4.out.1,by rw[ej],hid ⟨by rw[HS.out];exact hm.out,ho.out⟩⟩
      case measure=>rw[ej];exact h4.out.2
    · rw[if_neg (λh=>he (tx_eq h))]at h0
      have HS:=hid h0;have hne:=bne_list he;have HO:=hid hh.out;clear hi h2 h3 hx h5 h0 h1 h8 h9 h6 hb a1 a2 hh;go_wp2_with fail;go_roundw
      case rel=>exact⟨i+1,h4.out.1,by rw[ej],hid ⟨by rw[HS.out];exact HO.out.1,HO.out.2⟩⟩
      case measure=>rw[ej];exact h4.out.2
  · obtain rfl:i=n:=by omega
    have hf:¬(i:Int)<(i:Int):=by omega
    have h1:l.take i=l:=by rw[<-HN.out.1];exact List.take_length
    rw[h1,HV.out]at hh e1;have HO:=hid hh.out;subst e1;clear hi h2 h1 hh;go_wp2_with fail;go_ret;exact⟨_,_,rfl,HO.out.1,HO.out.2⟩
theorem rfirst_any (A:Option Addr) (n c:Nat) (l:List HdrV) (nm:ByteArray) (w:World) (hr:H6.Hr w A n l) (hn:n<=100000) (v:ByteArray) (hv:firstN l (tx nm)=v):
 Calls Tryz.prog 53 #[.slice A n c,.string nm] w λe w'=>e= .returned (.string v)/\Below w.heap.size w w':=by
 obtain⟨vs,h0⟩:∃vs,valsN l (tx nm)=vs:=⟨_,rfl⟩;have HA:=hid (rall_any A n c l nm w hr hn vs h0);have HV:=hid (show v=vs.headD ⟨#[]⟩by rw[<-hv,<-h0];rfl);clear hr hn hv h0;go_enter Tryz.func53,Tryz.ntmps53;go_wp2_with fail;refine HA.out.mono ?_;rintro e w1 ⟨A1,c1,rfl,ho,hb⟩;have HB:=hid hb;cases vs with
 |nil=>
  clear ho hb;go_wp2_with fail;go_ret;exact⟨by rw[HV.out];rfl,HB.out⟩
 |cons x vs=>
  have h1:=ho.rs (λ_=>rfl) (by omega);obtain⟨ad,h2,_,_,a0,_⟩:=h1.2 0 x rfl;subst h2
  have a0:w1.cell? ad=some (.string x):=by have e:ad.add (0*1)=ad:=by cases ad;rfl
                                           rw[e]at a0;exact a0
  have hp:(0:Int)<(((x::vs).length:Nat):Int):=by simp
  have h3:¬(((x::vs).length:Nat):Int)=0:=by rw[List.length_cons];omega
  have h4:=beqi h3;clear ho hb h1;generalize (x::vs).length=m at*
  go_wp2_with fail;go_ret;exact⟨by rw[HV.out];rfl,HB.out⟩
end Go.Proofs.YtkpppjhbmnfmkaaGreatDoor
end

section
set_option maxHeartbeats 8000000
set_option maxRecDepth 100000
namespace Go.Proofs.YtkpppjhbmnfmkaaGreatDoor
open Lib (hid)
open Go.RowKit Go.Own Go.Own.Im Go.Own.Cx Go.Own.Fr Go.Own.Hd
attribute [local go_sem] Oper.semAt_some
structure RE (w:World) (e tb:Nat) (t:Hk.TM):Prop where
 blk:Blk w e 106 #[.pointer (some ⟨tb,0,none⟩),.bool false,.int .i64 0,.int .i64 0]
 tab:RT w tb t.E t.most
 ne:e≠tb
 few:FewH t.E
 most:t.most<=8192
theorem RE.grown {w w':World} {e tb:Nat} {t:Hk.TM} {row:Option Nat} (h:RE w e tb t) (hg:w.grownBy w' row) (hr:∀g,row=some g->w.heap.size<=g):RE w' e tb t:=
 ⟨h.blk.grown hg (λe'=>by have:=hr e e'.symm;have:=h.blk.lt;omega),h.tab.grown hg hr,h.ne,h.few,h.most⟩
theorem RE.below {w w':World} {e tb:Nat} {t:Hk.TM} (h:RE w e tb t) (hb:Below w.heap.size w w'):RE w' e tb t:=h.grown (grown_of_below hb none) (λg e=>by cases e)
def RowNot (w:World) (tb g:Nat):Prop:=∀ad n c,w.cell? ⟨tb,0,none⟩=some (.slice (some ad) n c)->0<n->ad.block≠g
theorem RowNot.same {w w':World} {tb g:Nat} (h:RowNot w tb g) (e:w'.cell? ⟨tb,0,none⟩=w.cell? ⟨tb,0,none⟩):RowNot w' tb g:=λad n c hc h0=>h ad n c (e.symm.trans hc) h0
theorem RowNot.below {w w':World} {tb g:Nat} (h:RowNot w tb g) (hb:Below w.heap.size w w') (hl:tb<w.heap.size):RowNot w' tb g:=h.same (hb.cell hl)
def OneP (w:World) (e0 tb:Nat) (p:List UInt8×Hk.TM) (e:Ending) (w':World):Prop:=∃A c,e= .returned (.slice A p.1.length c)/\Ow w' w.heap.size 5 (.slice A p.1.length c) p.1.length p.1/\RE w' e0 tb p.2/\w.grownBy w' (some tb)/\∀g,RowNot w tb g->g<w.heap.size->RowNot w' tb g
theorem find_few {t:Hk.TM} (h:FewH t.E) (n v:ByteArray):(t.find n v).1<=361:=by
 have h1:=Hk.find_lt t n v;rw[Hk.all_len']at h1;have:=h.len;omega
structure TI (w:World) (e0 tb:Nat) (hn hv:ByteArray) (ne:Bool) (t:Hk.TM) (A:Option Addr) (c:Nat) (w1:World) (v:Value) (l:List UInt8):Prop where
 own:Ow w1 w.heap.size 5 v l.length l
 gr:w.grownBy w1 (some tb)
 blk:Blk w1 e0 106 #[.pointer (some ⟨tb,0,none⟩),.bool false,.int .i64 0,.int .i64 0]
 row:RTa w1 tb t.E t.most A c
 box:Blk w1 w.heap.size 63 #[.string hn,.string hv,.bool ne]
 sep:∀g,v.ownBlock=some g->g≠w.heap.size/\(0<t.E.length->∀ad,A=some ad->ad.block≠g)
 lt:e0<w.heap.size/\tb<w.heap.size/\e0≠tb
 rn:∀g,RowNot w tb g->g<w.heap.size->0<t.E.length->∀ad,A=some ad->ad.block≠g
section
variable {w w1 w2:World} {e0 tb:Nat} {hn hv:ByteArray} {ne:Bool} {t:Hk.TM} {A:Option Addr} {c:Nat} {v v':Value} {l q:List UInt8}
theorem TI.below (h:TI w e0 tb hn hv ne t A c w1 v l) (hb:Below w1.heap.size w1 w2):TI w e0 tb hn hv ne t A c w2 v l:=
 ⟨h.own.below hb (λg hg=>(h.own.lt hg).1),h.gr.trans (grown_of_below hb _),h.blk.below hb h.blk.lt,h.row.grown (grown_of_below hb none) (λe=>by cases e) (λ_ _ _ e=>by cases e),h.box.below hb h.box.lt,h.sep,h.lt,h.rn⟩
theorem TI.app (h:TI w e0 tb hn hv ne t A c w1 v l) (ho:Ow w2 w.heap.size 5 v' (l++q).length (l++q)) (hg:w1.grownBy w2 v.ownBlock) (h2:v'.ownBlock=v.ownBlock\/v'.ownBlock=some w1.heap.size):TI w e0 tb hn hv ne t A c w2 v' (l++q):=by
 have h1:∀g,v.ownBlock=some g->w.heap.size<=g:=λg hg=>(h.own.lt hg).2;refine⟨ho,⟨hg.os.trans h.gr.os,hg.tape.trans h.gr.tape,hg.output.trans h.gr.output,Nat.le_trans h.gr.size hg.size,λi hi hne=>(hg.block i (Nat.lt_of_lt_of_le hi h.gr.size) (λe=>by have:=h1 i e.symm;omega)).trans (h.gr.block i hi hne)⟩,
  h.blk.grown hg (λe=>by have:=h1 e0 e.symm;have:=h.lt.1;omega),h.row.grown hg (λe=>by have:=h1 tb e;have:=h.lt.2;omega) (λh0 ad e e'=>(h.sep _ e').2 h0 ad e rfl),h.box.grown hg (λe=>(h.sep _ e.symm).1 rfl),λg e=>?_,h.lt,h.rn⟩
 rcases h2 with e'|e'
 · exact h.sep g (e'.symm.trans e)
 · rw[e']at e
   injection e with e
   subst e;have h3:=h.box.lt;refine⟨by omega,λh0 ad ea=>?_⟩;obtain⟨x,hx⟩:∃x,t.E.reverse[0]?=some x:=⟨_,List.getElem?_eq_getElem (by rw[List.length_reverse];exact h0)⟩;obtain⟨ad2,e2,_,h4,_⟩:=h.row.2.1.2 0 x hx;rw[ea]at e2;injection e2 with e2
   subst e2;omega
theorem TI.of (h:RE w1 e0 tb t) (hbb:Below w.heap.size w w1) (h1:Blk w1 w.heap.size 63 #[.string hn,.string hv,.bool ne]) (h2:e0<w.heap.size/\tb<w.heap.size) (ho:Ow w2 w1.heap.size 5 v l.length l) (hw:Below w1.heap.size w1 w2):∃A c,TI w e0 tb hn hv ne t A c w2 v l:=by
 obtain⟨A,c,hr⟩:=h.tab.row;have h3:=h1.lt;refine⟨A,c,ho.base hbb.size,(grown_of_below hbb _).trans (grown_of_below hw _),h.blk.below hw h.blk.lt,hr.grown (grown_of_below hw none) (λe=>by cases e) (λ_ _ _ e=>by cases e),h1.below hw h1.lt,λg e=>?_,⟨h2.1,h2.2,h.ne⟩,λg hg _ h0 ad ea=>?_⟩;rotate_left
 · have hc:w1.cell? ⟨tb,0,none⟩=some (.slice A t.E.length c):=hr.1.cell 0
   exact hg ad _ c ((hbb.cell (p:=⟨tb,0,none⟩) h2.2).symm.trans (by rw[hc,ea])) h0
 have h4:=(ho.lt e).2;refine⟨by omega,λh0 ad ea=>?_⟩;obtain⟨x,hx⟩:∃x,t.E.reverse[0]?=some x:=⟨_,List.getElem?_eq_getElem (by rw[List.length_reverse];exact h0)⟩;obtain⟨ad2,e2,_,h5,_⟩:=hr.2.1.2 0 x hx;rw[ea]at e2;injection e2 with e2
 subst e2;omega
theorem TI.rown (h:TI w e0 tb hn hv ne t A c w1 v l):∀g,RowNot w tb g->g<w.heap.size->RowNot w1 tb g:=λg hg hl ad n c' hc h0=>by
 have h1:w1.cell? ⟨tb,0,none⟩=some (.slice A t.E.length c):=h.row.1.cell 0;rw[h1]at hc;injection hc with hc
 injection hc with e1 e2 e3
 subst e2;exact h.rn g hg hl h0 ad e1
theorem TI.add {t':Hk.TM} {A':Option Addr} {c':Nat} (h:TI w e0 tb hn hv ne t A c w1 v l) (hg:w1.grownBy w2 (some tb)) (hr:RTa w2 tb t'.E t'.most A' c') (ha:∀ad,A'=some ad->w1.heap.size<=ad.block):TI w e0 tb hn hv ne t' A' c' w2 v l:=by
 have h0:∀g,v.ownBlock=some g->g<w1.heap.size/\w.heap.size<=g:=λg hg=>h.own.lt hg;refine⟨h.own.grown hg ?_,h.gr.trans hg,h.blk.grown hg (λe=>by injection e with e;exact h.lt.2.2 e),hr,h.box.grown hg (λe=>by injection e with e;have:=h.lt.2.1;omega),λg e=>⟨(h.sep g e).1,λ_ ad ea=>by have:=ha ad ea;have:=h0 g e;omega⟩,h.lt,λg _ hg _ ad ea=>by have:=ha ad ea;have:=h.gr.size;omega⟩;cases hv:v.ownBlock with
 |none=>exact .inl rfl
 |some g=>exact .inr (λe=>by injection e with e;have:=h0 g hv;have:=h.lt.2.1;omega)
theorem few_add {E:List HdrV} {hn hv:ByteArray} {m s:Nat} (hf:FewH E) (hm:m<=8192) (hs:hsz ⟨hn,hv,false⟩=s) (hb:s<=m) (h1:hn.size<=1000000) (h2:hv.size<=1000000):FewH (Hk.shrink (m-s) E++[⟨hn,hv,false⟩]):=by
 have h3:=Hk.shrink_le (m-s) E;have h4:=Hk.hz_ge (Hk.shrink (m-s) E);refine⟨by rw[List.length_append,List.length_singleton];omega,λx hx=>?_⟩;rcases List.mem_append.1 hx with hx|hx
 · exact hf.sz x (Hk.shrink_sub _ E x hx)
 · rw[List.mem_singleton.1 hx];exact⟨h1,h2⟩
theorem TI.re (h:TI w e0 tb hn hv ne t A c w1 v l) (hf:FewH t.E) (hm:t.most<=8192):RE w1 e0 tb t:=⟨h.blk,h.row.rt,h.lt.2.2,hf,hm⟩
end
theorem ow_len {w:World} {base n m:Nat} {v:Value} {l q:List UInt8} (h:Ow w base 5 v (n+m) (l++q)):Ow w base 5 v (l++q).length (l++q):=by
 have h1:=h.len;rw[h1];exact h
theorem len_bnd {l s:List UInt8} {n m:Nat} (h1:l.length<=n) (h2:s.length<=m):(l++s).length<=n+m:=by rw[List.length_append];omega
theorem one_whole (w:World) (e0 tb:Nat) (t:Hk.TM) (hn hv:ByteArray) (h:RE w e0 tb t) (h1:hn.size<=1000000) (h2:hv.size<=1000000) (k:Nat) (hr:t.find hn hv=(k,true)):
 Calls Tryz.prog 49 #[.pointer (some ⟨e0,0,none⟩),.agg #[.string hn,.string hv,.bool false]] w (OneP w e0 tb (Hk.encOne t ⟨hn,hv,false⟩)):=by
 have HE:=hid h;have HX:=hid (Blk.new w 63 #[.string hn,.string hv,.bool false]);have HB:=hid ((Below.refl w.heap.size w).alloc (Nat.le_refl _) (.cells #[.string hn,.string hv,.bool false] 63));have HK:=hid (show k<=361 from by have:=find_few h.few hn hv;rw[hr]at this;exact this);have HP:Hid (Hk.encOne t ⟨hn,hv,false⟩=(Hk.putI 128 7 k,t)):=hid (by
  unfold Hk.encOne;simp only[hr];rw[if_pos ⟨trivial,trivial⟩])
 rw[HP.out];clear HP;have hh:=hid (λW (ht:RT W tb t.E t.most)=>rfind_any W tb t.E t.most hn hv ht h.few (k,true) hr);have hi:=hid (show e0<w.heap.size/\tb<w.heap.size from⟨h.blk.lt,h.tab.lt⟩);have hj:=hid (λW=>rputint_128_7 k (by have:=HK.out;omega) W);clear h h1 h2 hr;go_enter Tryz.func49,Tryz.ntmps49;go_upto_region 1 with fail;have h4:=hid (HE.out.below HB.out);generalize w.alloc (.cells #[.string hn,.string hv,.bool false] 63)=W0 at*
 have HQ:=hid (λW (hb:Below W0.heap.size W0 W)=>(show W.cell? ⟨e0,0,none⟩=some (.pointer (some ⟨tb,0,none⟩))/\W.cell? ⟨w.heap.size,0,none⟩=some (.string hn)/\W.cell? ⟨w.heap.size,1,none⟩=some (.string hv)/\W.cell? ⟨w.heap.size,2,none⟩=some (.bool false)from
  ⟨(h4.out.blk.below hb h4.out.blk.lt).cell 0,(HX.out.below hb HX.out.lt).cell 0,(HX.out.below hb HX.out.lt).cell 1,(HX.out.below hb HX.out.lt).cell 2⟩))
 have hc:=hid (HQ.out W0 (Below.refl _ _));have h6:=hid (HQ.out W0.drew (bdN (Below.refl _ _) 1));go_region_held3 (λW'=>W'.cell? ⟨e0,0,none⟩=some (.pointer (some ⟨tb,0,none⟩))/\W'.cell? ⟨w.heap.size,0,none⟩=some (.string hn)/\W'.cell? ⟨w.heap.size,1,none⟩=some (.string hv)/\W'.cell? ⟨w.heap.size,2,none⟩=some (.bool false)) (first|with_reducible exact hc.out|with_reducible exact h6.out|with_reducible exact hd.out|with_reducible exact h7.out) (first
  |(go_at_call 83
    with_reducible refine Calls.mono (hh.out _ ?_) ?_
    · first|exact h4.out.tab|exact h4.out.tab.below (bdN (Below.refl _ _) 1)
    rintro e w1 ⟨rfl,h3⟩;have h5:=hid (show Below W0.heap.size W0 w1 from⟨h3.os,h3.tape,h3.output,h3.size,h3.block⟩);have hd:=hid (HQ.out w1 h5.out);have h7:=hid (HQ.out w1.drew (bdN h5.out 1));clear h3)
  |fail)
 have hk:=hid (h4.out.below h5.out);have h8:=hid (HX.out.below h5.out HX.out.lt);have h0:=hid (HB.out.trans (h5.out.mono HB.out.size));have x0:=h8.out.cell 0;have x1:=h8.out.cell 1;have x2:=h8.out.cell 2;simp only[List.getElem?_toArray,List.getElem?_cons_zero,List.getElem?_cons_succ]at x0 x1 x2;clear HQ hc h6 hd h7;go_wp2_with fail;refine(hj.out _).mono ?_;rintro e w2 ⟨A2,c2,rfl,he,h9⟩;have hf:=hid (h0.out.trans (h9.mono h0.out.size));have hl:=hid (he.base h0.out.size);have hm:=hid (hk.out.below h9);clear he h9 x0 x1 x2;go_wp2_with fail;go_ret;exact⟨A2,c2,rfl,hl.out,hm.out,grown_of_below hf.out _,λg hg _=>hg.below hf.out hi.out.2⟩
theorem one_never (w:World) (e0 tb:Nat) (t:Hk.TM) (hn hv:ByteArray) (h:RE w e0 tb t) (h1:hn.size<=1000000) (h2:hv.size<=1000000) (k:Nat) (b:Bool) (hr:t.find hn hv=(k,b)):
 Calls Tryz.prog 49 #[.pointer (some ⟨e0,0,none⟩),.agg #[.string hn,.string hv,.bool true]] w (OneP w e0 tb (Hk.encOne t ⟨hn,hv,true⟩)):=by
 have HE:=hid h;have HX:=hid (Blk.new w 63 #[.string hn,.string hv,.bool true]);have HB:=hid ((Below.refl w.heap.size w).alloc (Nat.le_refl _) (.cells #[.string hn,.string hv,.bool true] 63));have HK:=hid (show k<=361 from by have:=find_few h.few hn hv;rw[hr]at this;exact this);have HP:Hid (Hk.encOne t ⟨hn,hv,true⟩=(Hk.putI 16 4 k++Hk.litP k ⟨hn,hv,true⟩,t)):=hid (by
  unfold Hk.encOne;simp only[hr];simp)
 rw[HP.out];clear HP;have HL:=hid (And.intro h1 h2);have hT:=hid (λW (ht:RT W tb t.E t.most)=>rfind_any W tb t.E t.most hn hv ht h.few (k,b) hr);have hH:=hid (show e0<w.heap.size/\tb<w.heap.size from⟨h.blk.lt,h.tab.lt⟩);have ho:=hid (And.intro h.few h.most);have hU:=hid (λW=>rputint_16_4 k (by have:=HK.out;omega) W);clear h h1 h2 hr;cases b;all_goals
  go_enter Tryz.func49,Tryz.ntmps49;go_upto_region 1 with fail;have h8:=hid (HE.out.below HB.out);generalize w.alloc (.cells #[.string hn,.string hv,.bool true] 63)=W0 at*
  have HQ:=hid (λW (hb:Below W0.heap.size W0 W)=>(show W.cell? ⟨e0,0,none⟩=some (.pointer (some ⟨tb,0,none⟩))/\W.cell? ⟨w.heap.size,0,none⟩=some (.string hn)/\W.cell? ⟨w.heap.size,1,none⟩=some (.string hv)/\W.cell? ⟨w.heap.size,2,none⟩=some (.bool true)from
   ⟨(h8.out.blk.below hb h8.out.blk.lt).cell 0,(HX.out.below hb HX.out.lt).cell 0,(HX.out.below hb HX.out.lt).cell 1,(HX.out.below hb HX.out.lt).cell 2⟩))
  have hI:=hid (HQ.out W0 (Below.refl _ _));have hl:=hid (HQ.out W0.drew (bdN (Below.refl _ _) 1));go_region_held3 (λW'=>W'.cell? ⟨e0,0,none⟩=some (.pointer (some ⟨tb,0,none⟩))/\W'.cell? ⟨w.heap.size,0,none⟩=some (.string hn)/\W'.cell? ⟨w.heap.size,1,none⟩=some (.string hv)/\W'.cell? ⟨w.heap.size,2,none⟩=some (.bool true)) (first|with_reducible exact hI.out|with_reducible exact hl.out|with_reducible exact hJ.out|with_reducible exact hm.out) (first
   |(go_at_call 83
     with_reducible refine Calls.mono (hT.out _ ?_) ?_
     · first|exact h8.out.tab|exact h8.out.tab.below (bdN (Below.refl _ _) 1)
     rintro e w1 ⟨rfl,h6⟩;have hc:=hid (show Below W0.heap.size W0 w1 from⟨h6.os,h6.tape,h6.output,h6.size,h6.block⟩);have hJ:=hid (HQ.out w1 hc.out);have hm:=hid (HQ.out w1.drew (bdN hc.out 1));clear h6)
   |fail)
  have hV:=hid (h8.out.below hc.out);have hq:=hid (HX.out.below hc.out HX.out.lt);have hG:=hid (HB.out.trans (hc.out.mono HB.out.size));have x0:=hq.out.cell 0;have x1:=hq.out.cell 1;have x2:=hq.out.cell 2;simp only[List.getElem?_toArray,List.getElem?_cons_zero,List.getElem?_cons_succ]at x0 x1 x2;clear HQ hI hl hJ hm;go_wp2_with fail;refine(hU.out _).mono ?_;rintro e w2 ⟨A2,c2,rfl,hK,hL⟩;obtain⟨Ar,cr,hM⟩:=TI.of hV.out hG.out hq.out ⟨hH.out.1,hH.out.2⟩ hK hL;have h7:=hid hM;have hu:=hid (show(Hk.putI 16 4 k).length<=6 from Hk.putI_len _ _ _);clear hK hL hM x0 x1 x2;generalize Hk.putI 16 4 k=p at*
  by_cases hw:k=0
  · have hW:(k:Int)=0:=by omega
    have hA:=hid hw;clear hw;have x0:=h7.out.box.cell 0;have x1:=h7.out.box.cell 1;simp only[List.getElem?_toArray,List.getElem?_cons_zero,List.getElem?_cons_succ]at x0 x1;go_wp2_with fail;refine(rputText_any hn (by have:=HL.out.1;omega) _).mono ?_;rintro e w3 ⟨A3,c3,rfl,hd,he⟩;have hC:=hid hd;have h4:=hid (h7.out.below he);have hf:=hid (show(Hk.putT hn.data.toList).length<=2000000 by
     have h9:=Hk.putT_len hn.data.toList;have e9:hn.data.toList.length=hn.size:=by simp
     have:=HL.out.1;omega)
    clear hd he x0 x1;generalize hD:Hk.putT hn.data.toList=q3 at*
    go_wp2_with (first
     |(at_builtin
       refine wpList_app_any _ byteP rfl (.tmp 56) (.tmp 59) rfl w.heap.size _ p.length p rfl h4.out.own w3.heap.size A3 q3.length c3 q3 rfl hC.out.rd (by have:=hu.out;have:=hf.out;omega) (Nat.le_of_lt h4.out.box.lt) ?_;intro A4 c4 w4 h5 hh hi _ _;have hN:=hid h5;have h3:=hid (h4.out.app (q:=q3) (ow_len h5) hh hi);have hO:=hid (len_bnd hu.out hf.out);have x0:=h3.out.box.cell 0;have x1:=h3.out.box.cell 1;simp only[List.getElem?_toArray,List.getElem?_cons_zero,List.getElem?_cons_succ]at x0 x1;clear h5 hh hi)
     |fail)
    refine(rputText_any hv (by have:=HL.out.2;omega) _).mono ?_;rintro e w5 ⟨A5,c5,rfl,hP,hQ⟩;have hX:=hid hP;have hE:=hid (h3.out.below hQ);have hY:=hid (show(Hk.putT hv.data.toList).length<=2000000 by
     have h9:=Hk.putT_len hv.data.toList;have e9:hv.data.toList.length=hv.size:=by simp
     have:=HL.out.2;omega)
    clear hP hQ x0 x1;generalize hZ:Hk.putT hv.data.toList=q5 at*
    go_wp2_with (first
     |(at_builtin
       refine wpList_app_any _ byteP rfl (.tmp 61) (.tmp 64) rfl w.heap.size _ (p++q3).length (p++q3) rfl hE.out.own w5.heap.size A5 q5.length c5 q5 rfl hX.out.rd (by have:=hO.out;have:=hY.out;omega) (Nat.le_of_lt hE.out.box.lt) ?_;intro A6 c6 w6 hF hR hS _ _;have H0:=hid hF;have hj:=hid (hE.out.app (q:=q5) (ow_len hF) hR hS);have x0:=hj.out.box.cell 0;have x1:=hj.out.box.cell 1;simp only[List.getElem?_toArray,List.getElem?_cons_zero,List.getElem?_cons_succ]at x0 x1;clear hF hR hS)
     |fail)
    go_ret;have hk:(p++q3++q5).length=(p++q3).length+q5.length:=List.length_append;have H1:(p++q3).length=p.length+q3.length:=List.length_append;have h0:p++Hk.litP k ⟨hn,hv,true⟩=p++q3++q5:=by
     unfold Hk.litP;rw[if_pos hA.out,List.append_assoc,hD,hZ]
    exact⟨A6,c6,by show _=Ending.returned (.slice A6 (p++Hk.litP k ⟨hn,hv,true⟩).length c6);rw[h0,hk,H1];rfl,by show Ow _ _ _ (.slice A6 (p++Hk.litP k ⟨hn,hv,true⟩).length c6) (p++Hk.litP k ⟨hn,hv,true⟩).length (p++Hk.litP k ⟨hn,hv,true⟩);rw[h0,hk];exact H0.out,hj.out.re ho.out.1 ho.out.2,hj.out.gr,hj.out.rown⟩
  · have hW:¬(k:Int)=0:=by omega
    have hA:=hid hw;clear hw;have x0:=h7.out.box.cell 0;have x1:=h7.out.box.cell 1;simp only[List.getElem?_toArray,List.getElem?_cons_zero,List.getElem?_cons_succ]at x0 x1;go_wp2_with fail;refine(rputText_any hv (by have:=HL.out.2;omega) _).mono ?_;rintro e w3 ⟨A3,c3,rfl,hd,he⟩;have hC:=hid hd;have h4:=hid (h7.out.below he);have hf:=hid (show(Hk.putT hv.data.toList).length<=2000000 by
     have h9:=Hk.putT_len hv.data.toList;have e9:hv.data.toList.length=hv.size:=by simp
     have:=HL.out.2;omega)
    clear hd he x0 x1;generalize hD:Hk.putT hv.data.toList=q3 at*
    go_wp2_with (first
     |(at_builtin
       refine wpList_app_any _ byteP rfl (.tmp 61) (.tmp 64) rfl w.heap.size _ p.length p rfl h4.out.own w3.heap.size A3 q3.length c3 q3 rfl hC.out.rd (by have:=hu.out;have:=hf.out;omega) (Nat.le_of_lt h4.out.box.lt) ?_;intro A4 c4 w4 h5 hh hi _ _;have hN:=hid h5;have h3:=hid (h4.out.app (q:=q3) (ow_len h5) hh hi);have hO:=hid (len_bnd hu.out hf.out);have x0:=h3.out.box.cell 0;have x1:=h3.out.box.cell 1;simp only[List.getElem?_toArray,List.getElem?_cons_zero,List.getElem?_cons_succ]at x0 x1;clear h5 hh hi)
     |fail)
    go_ret;have hk:(p++q3).length=p.length+q3.length:=List.length_append;have h0:p++Hk.litP k ⟨hn,hv,true⟩=p++q3:=by
     unfold Hk.litP;rw[if_neg hA.out,List.nil_append,hD]
    exact⟨A4,c4,by show _=Ending.returned (.slice A4 (p++Hk.litP k ⟨hn,hv,true⟩).length c4);rw[h0,hk];rfl,by show Ow _ _ _ (.slice A4 (p++Hk.litP k ⟨hn,hv,true⟩).length c4) (p++Hk.litP k ⟨hn,hv,true⟩).length (p++Hk.litP k ⟨hn,hv,true⟩);rw[h0,hk];exact hN.out,h3.out.re ho.out.1 ho.out.2,h3.out.gr,h3.out.rown⟩
theorem one_big (w:World) (e0 tb:Nat) (t:Hk.TM) (hn hv:ByteArray) (h:RE w e0 tb t) (h1:hn.size<=1000000) (h2:hv.size<=1000000) (k:Nat) (hr:t.find hn hv=(k,false)) (s:Nat) (hs:hsz ⟨hn,hv,false⟩=s) (hbig:t.most<s):
 Calls Tryz.prog 49 #[.pointer (some ⟨e0,0,none⟩),.agg #[.string hn,.string hv,.bool false]] w (OneP w e0 tb (Hk.encOne t ⟨hn,hv,false⟩)):=by
 have HE:=hid h;have HX:=hid (Blk.new w 63 #[.string hn,.string hv,.bool false]);have HB:=hid ((Below.refl w.heap.size w).alloc (Nat.le_refl _) (.cells #[.string hn,.string hv,.bool false] 63));have HK:=hid (show k<=361 from by have:=find_few h.few hn hv;rw[hr]at this;exact this);have HP:Hid (Hk.encOne t ⟨hn,hv,false⟩=(Hk.putI 0 4 k++Hk.litP k ⟨hn,hv,false⟩,t)):=hid (by
  unfold Hk.encOne;simp only[hr];rw[if_neg (by simp),if_neg (by simp),if_pos (by show t.most<hsz ⟨hn,hv,false⟩;rw[hs];exact hbig)])
 rw[HP.out];clear HP;have HL:=hid (And.intro h1 h2);have H1:=hid (λW (ht:RT W tb t.E t.most)=>rfind_any W tb t.E t.most hn hv ht h.few (k,false) hr);have hP:=hid (show e0<w.heap.size/\tb<w.heap.size from⟨h.blk.lt,h.tab.lt⟩);have hE:=hid (And.intro h.few h.most);have HS:=hid hs;have Hc:(t.most:Int)<(s:Int):=by omega
 have H2:=hid (λW=>rputint_0_4 k (by have:=HK.out;omega) W);clear h h1 h2 hr;go_enter Tryz.func49,Tryz.ntmps49;go_upto_region 1 with fail;have hi:=hid (HE.out.below HB.out);generalize w.alloc (.cells #[.string hn,.string hv,.bool false] 63)=W0 at*
 have HQ:=hid (λW (hb:Below W0.heap.size W0 W)=>(show W.cell? ⟨e0,0,none⟩=some (.pointer (some ⟨tb,0,none⟩))/\W.cell? ⟨w.heap.size,0,none⟩=some (.string hn)/\W.cell? ⟨w.heap.size,1,none⟩=some (.string hv)/\W.cell? ⟨w.heap.size,2,none⟩=some (.bool false)from
  ⟨(hi.out.blk.below hb hi.out.blk.lt).cell 0,(HX.out.below hb HX.out.lt).cell 0,(HX.out.below hb HX.out.lt).cell 1,(HX.out.below hb HX.out.lt).cell 2⟩))
 have hj:=hid (HQ.out W0 (Below.refl _ _));have h4:=hid (HQ.out W0.drew (bdN (Below.refl _ _) 1));go_region_held3 (λW'=>W'.cell? ⟨e0,0,none⟩=some (.pointer (some ⟨tb,0,none⟩))/\W'.cell? ⟨w.heap.size,0,none⟩=some (.string hn)/\W'.cell? ⟨w.heap.size,1,none⟩=some (.string hv)/\W'.cell? ⟨w.heap.size,2,none⟩=some (.bool false)) (first|with_reducible exact hj.out|with_reducible exact h4.out|with_reducible exact hQ.out|with_reducible exact hA.out) (first
  |(go_at_call 83
    with_reducible refine Calls.mono (H1.out _ ?_) ?_
    · first|exact hi.out.tab|exact hi.out.tab.below (bdN (Below.refl _ _) 1)
    rintro e w1 ⟨rfl,hd⟩;have he:=hid (show Below W0.heap.size W0 w1 from⟨hd.os,hd.tape,hd.output,hd.size,hd.block⟩);have hQ:=hid (HQ.out w1 he.out);have hA:=hid (HQ.out w1.drew (bdN he.out 1));clear hd)
  |fail)
 have hk:=hid (hi.out.below he.out);have h0:=hid (HX.out.below he.out HX.out.lt);have hc:=hid (HB.out.trans (he.out.mono HB.out.size));have x0:=h0.out.cell 0;have x1:=h0.out.cell 1;have x2:=h0.out.cell 2;simp only[List.getElem?_toArray,List.getElem?_cons_zero,List.getElem?_cons_succ]at x0 x1 x2;clear HQ hj h4 hQ hA;obtain⟨At,ct,hC⟩:=hk.out.tab.row;have hH:=hid hC;have HQ:=hid (λW (hb:Below w1.heap.size w1 W)=>(show(W.cell? ⟨e0,0,none⟩=some (.pointer (some ⟨tb,0,none⟩))/\W.cell? ⟨tb,1,none⟩=some (.int .i64 (t.most:Nat)))/\W.cell? ⟨w.heap.size,0,none⟩=some (.string hn)/\W.cell? ⟨w.heap.size,1,none⟩=some (.string hv)/\W.cell? ⟨w.heap.size,2,none⟩=some (.bool false)from
  ⟨⟨(hk.out.blk.below hb hk.out.blk.lt).cell 0,(hH.out.1.below hb hH.out.1.lt).cell 1⟩,(h0.out.below hb h0.out.lt).cell 0,(h0.out.below hb h0.out.lt).cell 1,(h0.out.below hb h0.out.lt).cell 2⟩))
 have hj:=hid (HQ.out w1 (Below.refl _ _));have h4:=hid (HQ.out w1.drew (bdN (Below.refl _ _) 1));clear hC;have hI:=hid (λW=>r3size_any hn hv false W (by have:=HL.out;omega) (by have:=HL.out;omega));rw[show hsz ⟨hn,hv,false⟩=s from HS.out]at hI;go_wp2_with fail;go_region_held3 (λW'=>(W'.cell? ⟨e0,0,none⟩=some (.pointer (some ⟨tb,0,none⟩))/\W'.cell? ⟨tb,1,none⟩=some (.int .i64 (t.most:Nat)))/\W'.cell? ⟨w.heap.size,0,none⟩=some (.string hn)/\W'.cell? ⟨w.heap.size,1,none⟩=some (.string hv)/\W'.cell? ⟨w.heap.size,2,none⟩=some (.bool false)) (first|with_reducible exact hj.out|with_reducible exact h4.out|with_reducible exact hR.out|with_reducible exact hD.out) (first
  |(go_at_call 46
    with_reducible refine Calls.mono (hI.out _) ?_
    rintro e w3 ⟨rfl,h3⟩;have hf:=hid (show Below w1.heap.size w1 w3 from⟨h3.os,h3.tape,h3.output,h3.size,h3.block⟩);have hR:=hid (HQ.out w3 hf.out);have hD:=hid (HQ.out w3.drew (bdN hf.out 1));clear h3)
  |fail)
 have H3:=hid (hk.out.below hf.out);have H4:=hid (h0.out.below hf.out h0.out.lt);have hO:=hid (hc.out.trans (hf.out.mono hc.out.size));clear HQ hj h4 hR hD hk h0 he hc hf x0 x1 x2 hI hH;go_wp2_with fail;refine(H2.out _).mono ?_;rintro e w2 ⟨A2,c2,rfl,hS,hT⟩;obtain⟨Ar,cr,hU⟩:=TI.of H3.out hO.out H4.out ⟨hP.out.1,hP.out.2⟩ hS hT;have hh:=hid hU;have hF:=hid (show(Hk.putI 0 4 k).length<=6 from Hk.putI_len _ _ _);clear hS hT hU;generalize Hk.putI 0 4 k=p at*
 by_cases hG:k=0
 · have H5:(k:Int)=0:=by omega
   have hJ:=hid hG;clear hG;have x0:=hh.out.box.cell 0;have x1:=hh.out.box.cell 1;simp only[List.getElem?_toArray,List.getElem?_cons_zero,List.getElem?_cons_succ]at x0 x1;go_wp2_with fail;refine(rputText_any hn (by have:=HL.out.1;omega) _).mono ?_;rintro e w3 ⟨A3,c3,rfl,hl,h3⟩;have hK:=hid hl;have h7:=hid (hh.out.below h3);have hm:=hid (show(Hk.putT hn.data.toList).length<=2000000 by
    have h9:=Hk.putT_len hn.data.toList;have e9:hn.data.toList.length=hn.size:=by simp
    have:=HL.out.1;omega)
   clear hl h3 x0 x1;generalize hL:Hk.putT hn.data.toList=q3 at*
   go_wp2_with (first
    |(at_builtin
      refine wpList_app_any _ byteP rfl (.tmp 56) (.tmp 59) rfl w.heap.size _ p.length p rfl h7.out.own w3.heap.size A3 q3.length c3 q3 rfl hK.out.rd (by have:=hF.out;have:=hm.out;omega) (Nat.le_of_lt h7.out.box.lt) ?_;intro A4 c4 w4 h8 ho hq _ _;have hV:=hid h8;have h6:=hid (h7.out.app (q:=q3) (ow_len h8) ho hq);have hW:=hid (len_bnd hF.out hm.out);have x0:=h6.out.box.cell 0;have x1:=h6.out.box.cell 1;simp only[List.getElem?_toArray,List.getElem?_cons_zero,List.getElem?_cons_succ]at x0 x1;clear h8 ho hq)
    |fail)
   refine(rputText_any hv (by have:=HL.out.2;omega) _).mono ?_;rintro e w5 ⟨A5,c5,rfl,hX,hY⟩;have H7:=hid hX;have hM:=hid (h6.out.below hY);have H8:=hid (show(Hk.putT hv.data.toList).length<=2000000 by
    have h9:=Hk.putT_len hv.data.toList;have e9:hv.data.toList.length=hv.size:=by simp
    have:=HL.out.2;omega)
   clear hX hY x0 x1;generalize H9:Hk.putT hv.data.toList=q5 at*
   go_wp2_with (first
    |(at_builtin
      refine wpList_app_any _ byteP rfl (.tmp 61) (.tmp 64) rfl w.heap.size _ (p++q3).length (p++q3) rfl hM.out.own w5.heap.size A5 q5.length c5 q5 rfl H7.out.rd (by have:=hW.out;have:=H8.out;omega) (Nat.le_of_lt hM.out.box.lt) ?_;intro A6 c6 w6 hN hZ H0 _ _;have Ha:=hid hN;have hu:=hid (hM.out.app (q:=q5) (ow_len hN) hZ H0);have x0:=hu.out.box.cell 0;have x1:=hu.out.box.cell 1;simp only[List.getElem?_toArray,List.getElem?_cons_zero,List.getElem?_cons_succ]at x0 x1;clear hN hZ H0)
    |fail)
   go_ret;have hw:(p++q3++q5).length=(p++q3).length+q5.length:=List.length_append;have Hb:(p++q3).length=p.length+q3.length:=List.length_append;have h5:p++Hk.litP k ⟨hn,hv,false⟩=p++q3++q5:=by
    unfold Hk.litP;rw[if_pos hJ.out,List.append_assoc,hL,H9]
   exact⟨A6,c6,by show _=Ending.returned (.slice A6 (p++Hk.litP k ⟨hn,hv,false⟩).length c6);rw[h5,hw,Hb];rfl,by show Ow _ _ _ (.slice A6 (p++Hk.litP k ⟨hn,hv,false⟩).length c6) (p++Hk.litP k ⟨hn,hv,false⟩).length (p++Hk.litP k ⟨hn,hv,false⟩);rw[h5,hw];exact Ha.out,hu.out.re hE.out.1 hE.out.2,hu.out.gr,hu.out.rown⟩
 · have H5:¬(k:Int)=0:=by omega
   have hJ:=hid hG;clear hG;have x0:=hh.out.box.cell 0;have x1:=hh.out.box.cell 1;simp only[List.getElem?_toArray,List.getElem?_cons_zero,List.getElem?_cons_succ]at x0 x1;go_wp2_with fail;refine(rputText_any hv (by have:=HL.out.2;omega) _).mono ?_;rintro e w3 ⟨A3,c3,rfl,hl,h3⟩;have hK:=hid hl;have h7:=hid (hh.out.below h3);have hm:=hid (show(Hk.putT hv.data.toList).length<=2000000 by
    have h9:=Hk.putT_len hv.data.toList;have e9:hv.data.toList.length=hv.size:=by simp
    have:=HL.out.2;omega)
   clear hl h3 x0 x1;generalize hL:Hk.putT hv.data.toList=q3 at*
   go_wp2_with (first
    |(at_builtin
      refine wpList_app_any _ byteP rfl (.tmp 61) (.tmp 64) rfl w.heap.size _ p.length p rfl h7.out.own w3.heap.size A3 q3.length c3 q3 rfl hK.out.rd (by have:=hF.out;have:=hm.out;omega) (Nat.le_of_lt h7.out.box.lt) ?_;intro A4 c4 w4 h8 ho hq _ _;have hV:=hid h8;have h6:=hid (h7.out.app (q:=q3) (ow_len h8) ho hq);have hW:=hid (len_bnd hF.out hm.out);have x0:=h6.out.box.cell 0;have x1:=h6.out.box.cell 1;simp only[List.getElem?_toArray,List.getElem?_cons_zero,List.getElem?_cons_succ]at x0 x1;clear h8 ho hq)
    |fail)
   go_ret;have hw:(p++q3).length=p.length+q3.length:=List.length_append;have h5:p++Hk.litP k ⟨hn,hv,false⟩=p++q3:=by
    unfold Hk.litP;rw[if_neg hJ.out,List.nil_append,hL]
   exact⟨A4,c4,by show _=Ending.returned (.slice A4 (p++Hk.litP k ⟨hn,hv,false⟩).length c4);rw[h5,hw];rfl,by show Ow _ _ _ (.slice A4 (p++Hk.litP k ⟨hn,hv,false⟩).length c4) (p++Hk.litP k ⟨hn,hv,false⟩).length (p++Hk.litP k ⟨hn,hv,false⟩);rw[h5,hw];exact hV.out,h6.out.re hE.out.1 hE.out.2,h6.out.gr,h6.out.rown⟩
theorem one_fits (w:World) (e0 tb:Nat) (t:Hk.TM) (hn hv:ByteArray) (h:RE w e0 tb t) (h1:hn.size<=1000000) (h2:hv.size<=1000000) (k:Nat) (hr:t.find hn hv=(k,false)) (s:Nat) (hs:hsz ⟨hn,hv,false⟩=s) (hh:s<=t.most) (E2:List HdrV) (hN:Hk.shrink (t.most-s) t.E=E2):
 Calls Tryz.prog 49 #[.pointer (some ⟨e0,0,none⟩),.agg #[.string hn,.string hv,.bool false]] w (OneP w e0 tb (Hk.encOne t ⟨hn,hv,false⟩)):=by
 have HE:=hid h;have HX:=hid (Blk.new w 63 #[.string hn,.string hv,.bool false]);have HB:=hid ((Below.refl w.heap.size w).alloc (Nat.le_refl _) (.cells #[.string hn,.string hv,.bool false] 63));have HK:=hid (show k<=361 from by have:=find_few h.few hn hv;rw[hr]at this;exact this);have HP:Hid (Hk.encOne t ⟨hn,hv,false⟩=(Hk.putI 64 6 k++Hk.litP k ⟨hn,hv,false⟩,({E:=E2++[⟨hn,hv,false⟩],most:=t.most}:Hk.TM))):=hid (by
  unfold Hk.encOne;simp only[hr];rw[if_neg (by simp),if_neg (by simp),if_neg (by show¬t.most<hsz ⟨hn,hv,false⟩;rw[hs];omega),Hk.add_fits (by show hsz ⟨hn,hv,false⟩<=t.most;rw[hs];exact hh),<-hN,<-hs];rfl)
 rw[HP.out];clear HP;have HL:=hid (And.intro h1 h2);have He:=hid (λW (ht:RT W tb t.E t.most)=>rfind_any W tb t.E t.most hn hv ht h.few (k,false) hr);have hW:=hid (show e0<w.heap.size/\tb<w.heap.size from⟨h.blk.lt,h.tab.lt⟩);have hc:=hid (And.intro h.few h.most);have HS:=hid hs;have Hq:¬(t.most:Int)<(s:Int):=by omega
 have Hg:=hid (λW (ht:RT W tb t.E t.most)=>radd_any W tb t.E t.most hn hv false ht h.few (Nat.le_trans h.most (by decide)) s hs hh E2 hN);have Hh:=hid (show FewH (E2++[⟨hn,hv,false⟩])from by rw[<-hN];exact few_add h.few h.most hs hh h1 h2);have Hi:=hid (λW=>rputint_64_6 k (by have:=HK.out;omega) W);clear h h1 h2 hr;go_enter Tryz.func49,Tryz.ntmps49;go_upto_region 1 with fail;have ho:=hid (HE.out.below HB.out);generalize w.alloc (.cells #[.string hn,.string hv,.bool false] 63)=W0 at*
 have HQ:=hid (λW (hb:Below W0.heap.size W0 W)=>(show W.cell? ⟨e0,0,none⟩=some (.pointer (some ⟨tb,0,none⟩))/\W.cell? ⟨w.heap.size,0,none⟩=some (.string hn)/\W.cell? ⟨w.heap.size,1,none⟩=some (.string hv)/\W.cell? ⟨w.heap.size,2,none⟩=some (.bool false)from
  ⟨(ho.out.blk.below hb ho.out.blk.lt).cell 0,(HX.out.below hb HX.out.lt).cell 0,(HX.out.below hb HX.out.lt).cell 1,(HX.out.below hb HX.out.lt).cell 2⟩))
 have hd:=hid (HQ.out W0 (Below.refl _ _));have h3:=hid (HQ.out W0.drew (bdN (Below.refl _ _) 1));go_region_held3 (λW'=>W'.cell? ⟨e0,0,none⟩=some (.pointer (some ⟨tb,0,none⟩))/\W'.cell? ⟨w.heap.size,0,none⟩=some (.string hn)/\W'.cell? ⟨w.heap.size,1,none⟩=some (.string hv)/\W'.cell? ⟨w.heap.size,2,none⟩=some (.bool false)) (first|with_reducible exact hd.out|with_reducible exact h3.out|with_reducible exact hX.out|with_reducible exact hG.out) (first
  |(go_at_call 83
    with_reducible refine Calls.mono (He.out _ ?_) ?_
    · first|exact ho.out.tab|exact ho.out.tab.below (bdN (Below.refl _ _) 1)
    rintro e w1 ⟨rfl,hj⟩;have hk:=hid (show Below W0.heap.size W0 w1 from⟨hj.os,hj.tape,hj.output,hj.size,hj.block⟩);have hX:=hid (HQ.out w1 hk.out);have hG:=hid (HQ.out w1.drew (bdN hk.out 1));clear hj)
  |fail)
 have hq:=hid (ho.out.below hk.out);have h4:=hid (HX.out.below hk.out HX.out.lt);have hi:=hid (HB.out.trans (hk.out.mono HB.out.size));have x0:=h4.out.cell 0;have x1:=h4.out.cell 1;have x2:=h4.out.cell 2;simp only[List.getElem?_toArray,List.getElem?_cons_zero,List.getElem?_cons_succ]at x0 x1 x2;clear HQ hd h3 hX hG;obtain⟨At,ct,hH⟩:=hq.out.tab.row;have hO:=hid hH;have HQ:=hid (λW (hb:Below w1.heap.size w1 W)=>(show(W.cell? ⟨e0,0,none⟩=some (.pointer (some ⟨tb,0,none⟩))/\W.cell? ⟨tb,1,none⟩=some (.int .i64 (t.most:Nat)))/\W.cell? ⟨w.heap.size,0,none⟩=some (.string hn)/\W.cell? ⟨w.heap.size,1,none⟩=some (.string hv)/\W.cell? ⟨w.heap.size,2,none⟩=some (.bool false)from
  ⟨⟨(hq.out.blk.below hb hq.out.blk.lt).cell 0,(hO.out.1.below hb hO.out.1.lt).cell 1⟩,(h4.out.below hb h4.out.lt).cell 0,(h4.out.below hb h4.out.lt).cell 1,(h4.out.below hb h4.out.lt).cell 2⟩))
 have hd:=hid (HQ.out w1 (Below.refl _ _));have h3:=hid (HQ.out w1.drew (bdN (Below.refl _ _) 1));clear hH;have hP:=hid (λW=>r3size_any hn hv false W (by have:=HL.out;omega) (by have:=HL.out;omega));rw[show hsz ⟨hn,hv,false⟩=s from HS.out]at hP;go_wp2_with fail;go_region_held3 (λW'=>(W'.cell? ⟨e0,0,none⟩=some (.pointer (some ⟨tb,0,none⟩))/\W'.cell? ⟨tb,1,none⟩=some (.int .i64 (t.most:Nat)))/\W'.cell? ⟨w.heap.size,0,none⟩=some (.string hn)/\W'.cell? ⟨w.heap.size,1,none⟩=some (.string hv)/\W'.cell? ⟨w.heap.size,2,none⟩=some (.bool false)) (first|with_reducible exact hd.out|with_reducible exact h3.out|with_reducible exact hY.out|with_reducible exact hI.out) (first
  |(go_at_call 46
    with_reducible refine Calls.mono (hP.out _) ?_
    rintro e w3 ⟨rfl,h5⟩;have hl:=hid (show Below w1.heap.size w1 w3 from⟨h5.os,h5.tape,h5.output,h5.size,h5.block⟩);have hY:=hid (HQ.out w3 hl.out);have hI:=hid (HQ.out w3.drew (bdN hl.out 1));clear h5)
  |fail)
 have hZ:=hid (hq.out.below hl.out);have H0:=hid (h4.out.below hl.out h4.out.lt);have hJ:=hid (hi.out.trans (hl.out.mono hi.out.size));clear HQ hd h3 hY hI hq h4 hk hi hl x0 x1 x2 hP hO;go_wp2_with fail;refine(Hi.out _).mono ?_;rintro e w2 ⟨A2,c2,rfl,H1,H2⟩;obtain⟨Ar,cr,H3⟩:=TI.of hZ.out hJ.out H0.out ⟨hW.out.1,hW.out.2⟩ H1 H2;have h0:=hid H3;have hu:=hid (show(Hk.putI 64 6 k).length<=6 from Hk.putI_len _ _ _);clear H1 H2 H3;generalize Hk.putI 64 6 k=p at*
 have hQ:=hid (show RE w2 e0 tb t from h0.out.re hc.out.1 hc.out.2);have HQ:=hid (λW (hb:Below w2.heap.size w2 W)=>(show W.cell? ⟨e0,0,none⟩=some (.pointer (some ⟨tb,0,none⟩))/\W.cell? ⟨w.heap.size,0,none⟩=some (.string hn)/\W.cell? ⟨w.heap.size,1,none⟩=some (.string hv)/\W.cell? ⟨w.heap.size,2,none⟩=some (.bool false)from
  ⟨(h0.out.blk.below hb h0.out.blk.lt).cell 0,(h0.out.box.below hb h0.out.box.lt).cell 0,(h0.out.box.below hb h0.out.box.lt).cell 1,(h0.out.box.below hb h0.out.box.lt).cell 2⟩))
 have hd:=hid (HQ.out w2 (Below.refl _ _));have h3:=hid (HQ.out w2.drew (bdN (Below.refl _ _) 1));go_wp2_with fail;go_region_held3 (λW'=>W'.cell? ⟨e0,0,none⟩=some (.pointer (some ⟨tb,0,none⟩))/\W'.cell? ⟨w.heap.size,0,none⟩=some (.string hn)/\W'.cell? ⟨w.heap.size,1,none⟩=some (.string hv)/\W'.cell? ⟨w.heap.size,2,none⟩=some (.bool false)) (first|with_reducible exact hd.out|with_reducible exact h3.out|with_reducible exact hR.out|with_reducible exact hK.out) (first
  |(go_at_call 84
    with_reducible refine Calls.mono (Hg.out _ ?_) ?_
    · first|exact hQ.out.tab|exact hQ.out.tab.below (bdN (Below.refl _ _) 1)
    rintro e w5 ⟨rfl,⟨A5,c5,H4,H5⟩,hm⟩;have h7:=hid (h0.out.add (show w2.grownBy w5 (some tb)from⟨hm.os,hm.tape,hm.output,hm.size,hm.block⟩) (t':={E:=E2++[⟨hn,hv,false⟩],most:=t.most}) H4 H5);have hR:=hid (show w5.cell? ⟨e0,0,none⟩=some (.pointer (some ⟨tb,0,none⟩))/\w5.cell? ⟨w.heap.size,0,none⟩=some (.string hn)/\w5.cell? ⟨w.heap.size,1,none⟩=some (.string hv)/\w5.cell? ⟨w.heap.size,2,none⟩=some (.bool false)from⟨h7.out.blk.cell 0,h7.out.box.cell 0,h7.out.box.cell 1,h7.out.box.cell 2⟩);have hK:=hid (show w5.drew.cell? ⟨e0,0,none⟩=some (.pointer (some ⟨tb,0,none⟩))/\w5.drew.cell? ⟨w.heap.size,0,none⟩=some (.string hn)/\w5.drew.cell? ⟨w.heap.size,1,none⟩=some (.string hv)/\w5.drew.cell? ⟨w.heap.size,2,none⟩=some (.bool false)from hR.out);clear H4 H5 hm)
  |fail)
 have hL:=h7;have Hs:=hu;have hc:=hid (show FewH (E2++[⟨hn,hv,false⟩])/\t.most<=8192 from⟨Hh.out,hc.out.2⟩);clear h0 hQ HQ hd h3 hR hK h7 hZ H0 hJ;have h0:=hL;clear hL;by_cases hM:k=0
 · have Hj:(k:Int)=0:=by omega
   have hS:=hid hM;clear hM;have x0:=h0.out.box.cell 0;have x1:=h0.out.box.cell 1;simp only[List.getElem?_toArray,List.getElem?_cons_zero,List.getElem?_cons_succ]at x0 x1;go_wp2_with fail;refine(rputText_any hn (by have:=HL.out.1;omega) _).mono ?_;rintro e w3 ⟨A3,c3,rfl,hw,h5⟩;have hT:=hid hw;have he:=hid (h0.out.below h5);have hA:=hid (show(Hk.putT hn.data.toList).length<=2000000 by
    have h9:=Hk.putT_len hn.data.toList;have e9:hn.data.toList.length=hn.size:=by simp
    have:=HL.out.1;omega)
   clear hw h5 x0 x1;generalize hU:Hk.putT hn.data.toList=q3 at*
   go_wp2_with (first
    |(at_builtin
      refine wpList_app_any _ byteP rfl (.tmp 56) (.tmp 59) rfl w.heap.size _ p.length p rfl he.out.own w3.heap.size A3 q3.length c3 q3 rfl hT.out.rd (by have:=hu.out;have:=hA.out;omega) (Nat.le_of_lt he.out.box.lt) ?_;intro A4 c4 w4 hf hC hD _ _;have H7:=hid hf;have h8:=hid (he.out.app (q:=q3) (ow_len hf) hC hD);have H8:=hid (len_bnd hu.out hA.out);have x0:=h8.out.box.cell 0;have x1:=h8.out.box.cell 1;simp only[List.getElem?_toArray,List.getElem?_cons_zero,List.getElem?_cons_succ]at x0 x1;clear hf hC hD)
    |fail)
   refine(rputText_any hv (by have:=HL.out.2;omega) _).mono ?_;rintro e w5 ⟨A5,c5,rfl,H9,Ha⟩;have Hl:=hid H9;have h7:=hid (h8.out.below Ha);have Hm:=hid (show(Hk.putT hv.data.toList).length<=2000000 by
    have h9:=Hk.putT_len hv.data.toList;have e9:hv.data.toList.length=hv.size:=by simp
    have:=HL.out.2;omega)
   clear H9 Ha x0 x1;generalize Hn:Hk.putT hv.data.toList=q5 at*
   go_wp2_with (first
    |(at_builtin
      refine wpList_app_any _ byteP rfl (.tmp 61) (.tmp 64) rfl w.heap.size _ (p++q3).length (p++q3) rfl h7.out.own w5.heap.size A5 q5.length c5 q5 rfl Hl.out.rd (by have:=H8.out;have:=Hm.out;omega) (Nat.le_of_lt h7.out.box.lt) ?_;intro A6 c6 w6 hV Hb Hc _ _;have Ho:=hid hV;have hE:=hid (h7.out.app (q:=q5) (ow_len hV) Hb Hc);have x0:=hE.out.box.cell 0;have x1:=hE.out.box.cell 1;simp only[List.getElem?_toArray,List.getElem?_cons_zero,List.getElem?_cons_succ]at x0 x1;clear hV Hb Hc)
    |fail)
   go_ret;have hF:(p++q3++q5).length=(p++q3).length+q5.length:=List.length_append;have Hp:(p++q3).length=p.length+q3.length:=List.length_append;have h6:p++Hk.litP k ⟨hn,hv,false⟩=p++q3++q5:=by
    unfold Hk.litP;rw[if_pos hS.out,List.append_assoc,hU,Hn]
   exact⟨A6,c6,by show _=Ending.returned (.slice A6 (p++Hk.litP k ⟨hn,hv,false⟩).length c6);rw[h6,hF,Hp];rfl,by show Ow _ _ _ (.slice A6 (p++Hk.litP k ⟨hn,hv,false⟩).length c6) (p++Hk.litP k ⟨hn,hv,false⟩).length (p++Hk.litP k ⟨hn,hv,false⟩);rw[h6,hF];exact Ho.out,hE.out.re hc.out.1 hc.out.2,hE.out.gr,hE.out.rown⟩
 · have Hj:¬(k:Int)=0:=by omega
   have hS:=hid hM;clear hM;have x0:=h0.out.box.cell 0;have x1:=h0.out.box.cell 1;simp only[List.getElem?_toArray,List.getElem?_cons_zero,List.getElem?_cons_succ]at x0 x1;go_wp2_with fail;refine(rputText_any hv (by have:=HL.out.2;omega) _).mono ?_;rintro e w3 ⟨A3,c3,rfl,hw,h5⟩;have hT:=hid hw;have he:=hid (h0.out.below h5);have hA:=hid (show(Hk.putT hv.data.toList).length<=2000000 by
    have h9:=Hk.putT_len hv.data.toList;have e9:hv.data.toList.length=hv.size:=by simp
    have:=HL.out.2;omega)
   clear hw h5 x0 x1;generalize hU:Hk.putT hv.data.toList=q3 at*
   go_wp2_with (first
    |(at_builtin
      refine wpList_app_any _ byteP rfl (.tmp 61) (.tmp 64) rfl w.heap.size _ p.length p rfl he.out.own w3.heap.size A3 q3.length c3 q3 rfl hT.out.rd (by have:=hu.out;have:=hA.out;omega) (Nat.le_of_lt he.out.box.lt) ?_;intro A4 c4 w4 hf hC hD _ _;have H7:=hid hf;have h8:=hid (he.out.app (q:=q3) (ow_len hf) hC hD);have H8:=hid (len_bnd hu.out hA.out);have x0:=h8.out.box.cell 0;have x1:=h8.out.box.cell 1;simp only[List.getElem?_toArray,List.getElem?_cons_zero,List.getElem?_cons_succ]at x0 x1;clear hf hC hD)
    |fail)
   go_ret;have hF:(p++q3).length=p.length+q3.length:=List.length_append;have h6:p++Hk.litP k ⟨hn,hv,false⟩=p++q3:=by
    unfold Hk.litP;rw[if_neg hS.out,List.nil_append,hU]
   exact⟨A4,c4,by show _=Ending.returned (.slice A4 (p++Hk.litP k ⟨hn,hv,false⟩).length c4);rw[h6,hF];rfl,by show Ow _ _ _ (.slice A4 (p++Hk.litP k ⟨hn,hv,false⟩).length c4) (p++Hk.litP k ⟨hn,hv,false⟩).length (p++Hk.litP k ⟨hn,hv,false⟩);rw[h6,hF];exact H7.out,h8.out.re hc.out.1 hc.out.2,h8.out.gr,h8.out.rown⟩
end Go.Proofs.YtkpppjhbmnfmkaaGreatDoor
end

section
set_option maxHeartbeats 8000000
set_option maxRecDepth 100000
namespace Go.Own.Hk
open Lib (hid)
theorem encP_snoc:∀(l:List Hd.HdrV) (t:TM) (x:Hd.HdrV),encP t (l++[x])=((encP t l).1++(encOne (encP t l).2 x).1,(encOne (encP t l).2 x).2)
 |[],t,x=>by simp[encP]
 |h::l,t,x=>by
  rw[List.cons_append,encP,encP_snoc l,encP];simp[List.append_assoc]
end Go.Own.Hk
namespace Go.Proofs.YtkpppjhbmnfmkaaGreatDoor
open Lib (hid)
open Go.RowKit Go.Own Go.Own.Im Go.Own.Cx Go.Own.Fr Go.Own.Hd
attribute [local go_sem] Oper.semAt_some
theorem one_any (w:World) (e0 tb:Nat) (t:Hk.TM) (x:HdrV) (h:RE w e0 tb t) (h1:x.name.size<=1000000) (h2:x.value.size<=1000000):
 Calls Tryz.prog 49 #[.pointer (some ⟨e0,0,none⟩),.agg #[.string x.name,.string x.value,.bool x.never]] w (OneP w e0 tb (Hk.encOne t x)):=by
 obtain⟨hn,hv,ne⟩:=x;obtain⟨⟨k,wh⟩,hr⟩:∃r,t.find hn hv=r:=⟨_,rfl⟩;cases ne with
 |true=>
  cases wh with
  |true=>exact one_never w e0 tb t hn hv h h1 h2 k true hr
  |false=>exact one_never w e0 tb t hn hv h h1 h2 k false hr
 |false=>
  cases wh with
  |true=>exact one_whole w e0 tb t hn hv h h1 h2 k hr
  |false=>
   rcases Nat.lt_or_ge t.most (hsz ⟨hn,hv,false⟩)with hb|hb
   · exact one_big w e0 tb t hn hv h h1 h2 k hr _ rfl hb
   · exact one_fits w e0 tb t hn hv h h1 h2 k hr _ rfl hb _ rfl
theorem RE.app {w2 w3:World} {e0 tb:Nat} {t:Hk.TM} {row:Option Nat} (h:RE w2 e0 tb t) (hg:w2.grownBy w3 row) (hr:∀g,row=some g->g≠e0/\g≠tb/\RowNot w2 tb g):RE w3 e0 tb t:=by
 obtain⟨A,c,h1⟩:=h.tab.row;have hc:w2.cell? ⟨tb,0,none⟩=some (.slice A t.E.length c):=h1.1.cell 0;exact⟨h.blk.grown hg (λe=>(hr e0 e.symm).1 rfl),(h1.grown hg (λe=>(hr tb e).2.1 rfl) (λh0 ad ea e=>(hr _ e).2.2 ad _ c (by rw[hc,ea]) h0 rfl)).rt,h.ne,h.few,h.most⟩
theorem RowNot.new {w:World} {tb:Nat} {t:Hk.TM} {e0 g:Nat} (h:RE w e0 tb t) (hg:w.heap.size<=g):RowNot w tb g:=λad n c hc h0 e=>by
 obtain⟨A,c',h1⟩:=h.tab.row;have h2:w.cell? ⟨tb,0,none⟩=some (.slice A t.E.length c'):=h1.1.cell 0;rw[hc]at h2;injection h2 with h2
 injection h2 with e1 e2 e3
 obtain⟨x,hx⟩:∃x,t.E.reverse[0]?=some x:=⟨_,List.getElem?_eq_getElem (by rw[List.length_reverse];omega)⟩;obtain⟨ad2,ea,_,hl,_⟩:=h1.2.1.2 0 x hx;rw[<-e1]at ea;injection ea with ea
 subst ea;omega
structure EnJ (w:World) (e0 tb:Nat) (t:Hk.TM) (l:List HdrV) (i:Nat) (t':Hk.TM) (out:List UInt8) (v:Value) (wr:World):Prop where
 eq:Hk.encP t (l.take i)=(out,t')
 own:Ow wr w.heap.size 5 v out.length out
 re:RE wr e0 tb t'
 gr:w.grownBy wr (some tb)
 sep:∀g,v.ownBlock=some g->RowNot wr tb g
 lt:e0<w.heap.size/\tb<w.heap.size
theorem EnJ.step {w wr w2 w3:World} {e0 tb i:Nat} {t t':Hk.TM} {l:List HdrV} {out:List UInt8} {v v':Value} {x:HdrV} (h:EnJ w e0 tb t l i t' out v wr) (hx:l[i]?=some x) (hre:RE w2 e0 tb (Hk.encOne t' x).2) (h0:wr.grownBy w2 (some tb)) (hn:∀g,RowNot wr tb g->g<wr.heap.size->RowNot w2 tb g)
 (ho:Ow w3 w.heap.size 5 v' (out.length+(Hk.encOne t' x).1.length) (out++(Hk.encOne t' x).1)) (h1:w2.grownBy w3 v.ownBlock) (hv:v'.ownBlock=v.ownBlock\/v'.ownBlock=some w2.heap.size):EnJ w e0 tb t l (i+1) (Hk.encOne t' x).2 (out++(Hk.encOne t' x).1) v' w3:=by
 have hb:∀g,v.ownBlock=some g->g<wr.heap.size/\w.heap.size<=g:=λg hg=>h.own.lt hg;have h2:∀g,v.ownBlock=some g->g≠e0/\g≠tb/\RowNot w2 tb g:=λg e=>by
  have:=hb g e;have:=h.lt;exact⟨by omega,by omega,hn g (h.sep g e) (hb g e).1⟩
 have h3:w3.cell? ⟨tb,0,none⟩=w2.cell? ⟨tb,0,none⟩:=by
  refine Cm.cell_same ?_;exact h1.block tb (Nat.lt_of_lt_of_le h.lt.2 (Nat.le_trans h.gr.size h0.size)) (λe=>(h2 tb e.symm).2.1 rfl)
 refine⟨?_,ow_len ho,hre.app h1 h2,⟨(h1.os.trans h0.os).trans h.gr.os,(h1.tape.trans h0.tape).trans h.gr.tape,(h1.output.trans h0.output).trans h.gr.output,Nat.le_trans h.gr.size (Nat.le_trans h0.size h1.size),λj hj hne=>?_⟩,λg e=>?_,h.lt⟩
 · have hl:=(List.getElem?_eq_some_iff.1 hx).1
   have he:=(List.getElem?_eq_some_iff.1 hx).2;rw[List.take_succ_eq_append_getElem hl,he,Hk.encP_snoc,h.eq]
 · have h5:=h1.block j (Nat.lt_of_lt_of_le hj (Nat.le_trans h.gr.size h0.size)) (λe=>by have:=(hb j e.symm).2;omega)
   have h6:=h0.block j (Nat.lt_of_lt_of_le hj h.gr.size) hne;exact(h5.trans h6).trans (h.gr.block j hj hne)
 · rcases hv with e'|e'
   · exact(h2 g (e'.symm.trans e)).2.2.same h3
   · rw[e']at e
     injection e with e
     exact(RowNot.new hre (by omega)).same h3
def EncPo (w:World) (e0 tb:Nat) (p:List UInt8×Hk.TM) (e:Ending) (w':World):Prop:=∃A c,e= .returned (.slice A p.1.length c)/\Ow w' w.heap.size 5 (.slice A p.1.length c) p.1.length p.1/\RE w' e0 tb p.2/\w.grownBy w' (some tb)
theorem rencodeP_any (w:World) (e0 tb:Nat) (t:Hk.TM) (A:Option Addr) (c B:Nat) (l:List HdrV) (h:RE w e0 tb t) (hr:Cm.RS hdrC 3 w B A l.length l) (hB:B<=tb) (hz:hszs l<=1000000) (p:List UInt8×Hk.TM) (hp:Hk.encP t l=p):
 Calls Tryz.prog 25 #[.pointer (some ⟨e0,0,none⟩),.slice A l.length c] w (EncPo w e0 tb p):=by
 have HR:=hid hr;have HP:=hid hp;have HB:=hid hB;have HZ:=hid hz;have ho:=hid (show EnJ w e0 tb t l 0 t [] (.slice none 0 0) w from⟨by simp[Hk.encP],⟨rfl,.inl ⟨rfl,rfl⟩⟩,h,World.grownBy.refl _ _,λg e=>(by cases e),⟨h.blk.lt,h.tab.lt⟩⟩);have c1:w.cell? ⟨e0,1,none⟩=some (.bool false):=h.blk.cell 1;obtain⟨n,hn⟩:∃n,l.length=n:=⟨_,rfl⟩;rw[hn];have HN:=hid hn;have hq:=hid (show n<=100000 by have:=hszs_32 l;omega);clear h hr hp hB hz hn;go_enter Tryz.func25,Tryz.ntmps25;go_upto_region 8 with fail;clear c1;go_loopw [5,6] (λt5 t6 wr=>∃(i:Nat) (t':Hk.TM) (out:List UInt8),i<=n/\t6= .int .i64 (i:Nat)/\Hid (EnJ w e0 tb t l i t' out t5 wr)) (λ_ t6 _=>n-(intOf t6).toNat)
 case atStart=>exact⟨0,t,[],Nat.zero_le _,rfl,ho⟩
 case round=>
  obtain⟨i,t',out,hi,rfl,hh⟩:=hrel;have HI:=hid hh.out;obtain⟨A1,c1,rfl,_,_,_⟩:=hh.out.own.form;have h6:=hq.out;clear hh;by_cases h5:i<n
  · have ht:(i:Int)<(n:Int):=by omega
    have i0:(0:Int)<=(i:Int):=by omega
    have h0:i<l.length:=by rw[HN.out];exact h5
    obtain⟨x,hx⟩:∃x,l[i]?=some x:=⟨_,List.getElem?_eq_getElem h0⟩;have hH:=rs_hr (HR.out.keep HI.out.gr.size λad _ hb hl=>HI.out.gr.block _ hl (λe=>by injection e with e;have:=HB.out;omega));obtain⟨ad,hA,a0,a1,a2⟩:=hH.at_ (k:=i) h0;have h7:l.getD i ⟨⟨#[]⟩,⟨#[]⟩,false⟩=x:=by rw[List.getD,hx];rfl
    rw[h7]at a0 a1 a2;subst hA;have hu:=hsize_le (List.mem_of_getElem? hx) HZ.out;have HO:=hid (one_any wr e0 tb t' x HI.out.re (by omega) (by omega));have HX:=hid hx;have h8:i<=1000000000000:=by omega
    have h9:=hid (show i+1<=n/\n-(i+1)<n-i from⟨by omega,by omega⟩);have h3:=Hk.encP_len t (l.take (i+1));have hc:Hk.hzs (l.take (i+1))<=1000000:=Nat.le_trans (by
     have e:l=l.take (i+1)++l.drop (i+1):=(List.take_append_drop _ _).symm
     conv=>rhs;rw[e]
     rw[Hk.hzs_append];omega) (show Hk.hzs l<=1000000 from HZ.out)
    rw[List.take_succ_eq_append_getElem h0,(List.getElem?_eq_some_iff.1 hx).2,Hk.encP_snoc,HI.out.eq,List.length_append]at h3;rw[List.take_succ_eq_append_getElem h0,(List.getElem?_eq_some_iff.1 hx).2]at hc;have h3:out.length+(Hk.encOne t' x).1.length<=Hk.hzs (l.take i++[x]):=h3;have hw:=hid (show out.length+(Hk.encOne t' x).1.length<=140737488355328 by omega);have ej:=zs4 i h8;clear hH h7 hu hx h0 h5 hi h3 hc h6 h8;obtain⟨xn,xv,xb⟩:=x;simp only at a0 a1 a2;go_wp2_with fail;refine HO.out.mono ?_;rintro e w2 ⟨A2,c2,rfl,hd,h1,h4,hf⟩;have hC:=hid hd;have hD:=hid h1;have hE:=hid h4;have hF:=hid hf;have hG:=hid (HI.out.own.grown h4 (by
     cases hv:(Value.slice A1 out.length c1).ownBlock with
     |none=>exact .inl rfl
     |some g=>exact .inr (λe=>by injection e with e;have:=(HI.out.own.lt hv).2;have:=HI.out.lt;omega)))
    have hI:=hid (show w.heap.size<=w2.heap.size from Nat.le_trans HI.out.gr.size h4.size);clear hd h1 h4 hf a0 a1 a2;go_wp2_with (first
     |(at_builtin
       refine wpList_app_any _ byteP rfl (.tmp 43) (.tmp 49) rfl w.heap.size _ out.length out rfl hG.out w2.heap.size A2 _ c2 _ rfl hC.out.rd hw.out hI.out ?_;intro A3 c3 w3 hj hk hm _ _;have HJ:=hid (HI.out.step HX.out hD.out hE.out hF.out hj hk hm);clear hj hk hm)
     |fail)
    go_roundw
    case rel=>exact⟨i+1,_,_,h9.out.1,by rw[ej],HJ⟩
    case measure=>rw[ej];exact h9.out.2
  · have ht:¬(i:Int)<(n:Int):=by omega
    obtain rfl:i=n:=by omega
    have h2:l.take i=l:=by rw[<-HN.out];exact List.take_length
    have he:=HI.out.eq;rw[h2,HP.out]at he;subst he;clear h2 h5 hi h6;go_wp2_with fail;go_ret;exact⟨_,_,rfl,HI.out.own,HI.out.re,HI.out.gr⟩
end Go.Proofs.YtkpppjhbmnfmkaaGreatDoor
end
